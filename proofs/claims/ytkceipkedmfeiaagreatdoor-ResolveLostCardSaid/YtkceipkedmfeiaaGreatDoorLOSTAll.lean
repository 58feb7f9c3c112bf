/- ResolveLost at arguments that read as data. -/
import Derived.Test.YtkceipkedmfeiaaGreatDoorLOST
import Derived.Test.YtkceipkedmfeiaaGreatDoorOps
namespace Go.Proofs.YtkceipkedmfeiaaGreatDoor.XL
open Go Go.RowKit Go.Shelf Go.Proofs.YtkceipkedmfeiaaGreatDoorW.PrintWords Go.Proofs.YtkceipkedmfeiaaGreatDoorW.PrintLast Go.Proofs.YtkceipkedmfeiaaGreatDoorW.PrintMore Go.Proofs.YtkceipkedmfeiaaGreatDoor.X30 Go.Proofs.YtkceipkedmfeiaaGreatDoor.XU

theorem slice_bytes {H : Type} {enc : TypeId × Value → H} {P : Program} {W : World} {sp : Nat → Bool} {held : Bool} {fuel t e : Nat} {v : Value} {x : DataW H × List MemPlace} {α : Type} {d : Kd α} {y : List α} (hu : P.underlying t = some (.slice e))
    (hm : DataW.trod enc P W 0 sp held fuel t [v] = some x) (hk : (Kd.slice e d).K W y [v]) (hs : ∀ el s, x.1 = .slice el s → (el.length + s.length) * P.bytesOf e ≤ reachBytes) : y.length * P.bytesOf e ≤ reachBytes := by
  obtain ⟨A, c, e0, -, -⟩ := hk
  rcases Go.Deep.open_slice hu hm with ⟨hv, -⟩ | ⟨a, len, cap, m, n, D, Pl, hv, -, -, -, -, rfl, -⟩
  · rw [hv] at e0
    injection e0 with e1 _
    injection e1 with _ e3 _
    rw [← e3, Nat.zero_mul]
    exact Nat.zero_le _
  · rw [hv] at e0
    injection e0 with e1 _
    injection e1 with _ e3 _
    have := hs _ _ rfl
    rw [List.length_map, List.length_range] at this
    rw [← e3]
    exact Nat.le_trans (Nat.mul_le_mul_right _ (Nat.le_add_right _ _)) this
theorem faceBytes : Tryz.prog.bytesOf 43 = 144 := by kernel_rfl

theorem Lost_first (y0 : List FC) (v0 : Value) (y1 : List NP) (v1 : Value) (y2 : S26) (cs2 : Array Value) (W : World) (k0 : (Kd.slice 43 k43).K W y0 [v0]) (g0 : y0.length ≤ maxLen ∧ ∀ x ∈ y0, good43 x) (z0 : y0.length * Tryz.prog.bytesOf 43 ≤ reachBytes)
    (k1 : (Kd.slice 50 k50).K W y1 [v1]) (g1 : y1.length ≤ maxLen ∧ ∀ x ∈ y1, good50 x) (_z1 : y1.length * Tryz.prog.bytesOf 50 ≤ reachBytes)
    (k2 : k26.K W y2 cs2.toList) (g2 : good26 y2) (hG : EnvL W) :
    Calls Tryz.prog 3 #[v0, v1, .agg cs2] W fun e w' => e = .returned (.bool true) ∧ Below W.heap.size W w' := by
  obtain ⟨A0, c0, e0, l0, h0⟩ := k0
  obtain ⟨A1, c1, e1, l1, h1⟩ := k1
  obtain ⟨A2, c2, e2, l2, h2⟩ := k26_open k2
  have := congrArg List.toArray e2
  rw [Array.toArray_toList] at this
  subst this
  obtain rfl : v0 = .slice A0 y0.length c0 := by injection e0
  obtain rfl : v1 = .slice A1 y1.length c1 := by injection e1
  rw [faceBytes] at z0
  have hz : y0.length ≤ 17592186044416 := by
    have : reachBytes = 140737488351232 := rfl
    omega
  exact Lost_walk y0 A0 c0 y1 A1 c1 y2.f0 y2.f1 A2 c2 W hG h0 l0 h1 l1 h2 l2 hz g1.1 g2.2.1 (fun x hx => (g0.2 x hx).2.2.1)
end Go.Proofs.YtkceipkedmfeiaaGreatDoor.XL
