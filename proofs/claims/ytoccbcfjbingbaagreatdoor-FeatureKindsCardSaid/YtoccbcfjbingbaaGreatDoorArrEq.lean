/- '==' of two arrays of three strings. -/
import Derived.Test.YtoccbcfjbingbaaGreatDoorLibS
import Derived.Test.YtoccbcfjbingbaaGreatDoorWEqStruct
import Derived.ChangeKeysEq
import Derived.WalkKit
namespace Go.Proofs.YtoccbcfjbingbaaGreatDoor
open Go Go.RowKit

theorem infoStr : (Tryz.prog.info? 9).map (fun i => (i.zero, i.size, i.bytes)) = some (some (.string ⟨#[]⟩), 1, 16) := by kernel_rfl
set_option maxRecDepth 100000 in
theorem eqArr3 (d : Nat) (w : World) {t : TypeId} (hu : Tryz.prog.underlying t = some (.array 3 9)) (x0 y0 : ByteArray) (x1 y1 : ByteArray) (x2 y2 : ByteArray) :
    (Op.equalIn (d + 2) t (.agg #[.string x0, .string x1, .string x2]) (.agg #[.string y0, .string y1, .string y2])).run Tryz.prog w = .ok (x0.toList == y0.toList && (x1.toList == y1.toList && (x2.toList == y2.toList))) w := by
  obtain ⟨i, hi, h0, h1, h2⟩ := info_parts infoStr
  have hc : Tryz.prog.cellsOf 9 = 1 := by kernel_rfl
  have hk : List.range 3 = [0, 1, 2] := by decide
  have p0 : ∀ (a b c : ByteArray), (part 9 #[.string a, .string b, .string c] 0).run Tryz.prog w = .ok (.string a) w := fun a b c => by go_simp
  have p1 : ∀ (a b c : ByteArray), (part 9 #[.string a, .string b, .string c] 1).run Tryz.prog w = .ok (.string b) w := fun a b c => by go_simp
  have p2 : ∀ (a b c : ByteArray), (part 9 #[.string a, .string b, .string c] 2).run Tryz.prog w = .ok (.string c) w := fun a b c => by go_simp
  have e0 : ∀ (a b : ByteArray), (Op.equalIn (d + 1) 9 (.string a) (.string b)).run Tryz.prog w = .ok (a.toList == b.toList) w := fun a b => by go_simp
  rw [show d + 2 = (d + 1) + 1 from rfl, run_equalIn_array w (d + 1) _ _ hu hi, hc, hk]
  have q0 := e0 x0 y0
  have q1 := e0 x1 y1
  have q2 := e0 x2 y2
  clear e0
  generalize (x0.toList == y0.toList) = b0 at *
  generalize (x1.toList == y1.toList) = b1 at *
  generalize (x2.toList == y2.toList) = b2 at *
  cases b0 <;> cases b1 <;> cases b2 <;> simp [Op.eqItems, p0, p1, p2, q0, q1, q2]

end Go.Proofs.YtoccbcfjbingbaaGreatDoor
