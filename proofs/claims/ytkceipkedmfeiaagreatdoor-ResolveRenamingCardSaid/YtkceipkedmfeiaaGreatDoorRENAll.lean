/- ResolveRenaming at arguments that read as data. -/
import Derived.Test.YtkceipkedmfeiaaGreatDoorREN
import Derived.Test.YtkceipkedmfeiaaGreatDoorOpsW
namespace Go.Proofs.YtkceipkedmfeiaaGreatDoor.XL
open Go Go.RowKit Go.Shelf Go.Proofs.YtkceipkedmfeiaaGreatDoorW.PrintWords Go.Proofs.YtkceipkedmfeiaaGreatDoorW.PrintLast Go.Proofs.YtkceipkedmfeiaaGreatDoorW.PrintMore Go.Proofs.YtkceipkedmfeiaaGreatDoor.X30 Go.Proofs.YtkceipkedmfeiaaGreatDoor.XU

theorem Ren_all (y0 : List FC) (v0 : Value) (y1 : List NP) (v1 : Value) (y2 : S26) (cs2 : Array Value) (W : World) (k0 : (Kd.slice 43 k43).K W y0 [v0]) (g0 : y0.length * 144 ≤ reachBytes ∧ ∀ x ∈ y0, lim43 x)
    (k1 : (Kd.slice 50 k50).K W y1 [v1]) (g1 : y1.length * 112 ≤ reachBytes ∧ ∀ x ∈ y1, lim50 x) (k2 : k26.K W y2 cs2.toList) (_g2 : lim26 y2) (hG : EnvL W) :
    Calls Tryz.prog 5 #[v0, v1, .agg cs2] W fun e w' => e = .returned (.bool true) ∧ Below W.heap.size W w' := by
  obtain ⟨A0, c0, e0, l0, h0⟩ := k0
  obtain ⟨A1, c1, e1, l1, h1⟩ := k1
  obtain ⟨A2, c2, e2, l2, h2⟩ := k26_open k2
  have := congrArg List.toArray e2
  rw [Array.toArray_toList] at this
  subst this
  obtain rfl : v0 = .slice A0 y0.length c0 := by injection e0
  obtain rfl : v1 = .slice A1 y1.length c1 := by injection e1
  have hr : reachBytes = 140737488351232 := rfl
  have z0 := g0.1
  have z1 := g1.1
  exact Ren_walk y0 A0 c0 y1 A1 c1 y2.f0 y2.f1 A2 c2 W hG h0 l0 h1 l1 h2 l2 (by omega) (by omega) (fun x hx => by have := (g0.2 x hx).2.2.1; omega)
end Go.Proofs.YtkceipkedmfeiaaGreatDoor.XL
