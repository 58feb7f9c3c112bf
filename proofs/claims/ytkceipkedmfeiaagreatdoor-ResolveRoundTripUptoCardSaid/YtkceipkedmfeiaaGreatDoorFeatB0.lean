/- The pieces between the bars of a string, as the reference's loop lays them. No program in sight. -/
import Derived.Test.YtkceipkedmfeiaaGreatDoorLibS
import Derived.Test.YtkceipkedmfeiaaGreatDoorWWords
namespace Go.Proofs.YtkceipkedmfeiaaGreatDoor.X30
open Go Go.Proofs.YtkceipkedmfeiaaGreatDoorW.PrintWords

def pieces (s : ByteArray) : Nat → Nat → Nat → List ByteArray
  | 0, _, _ => []
  | d + 1, m, n => if n = s.size ∨ bt s n = 124 then s.extract m n :: pieces s d (n + 1) (n + 1) else pieces s d m (n + 1)
def refSplit (s : ByteArray) : Option (List ByteArray) := if s.size ≤ 4398046511104 then some (pieces s (s.size + 1) 0 0) else none
theorem refSplit_some {s : ByteArray} {l : List ByteArray} (h : refSplit s = some l) : s.size ≤ 4398046511104 ∧ pieces s (s.size + 1) 0 0 = l := by
  unfold refSplit at h
  split at h
  · exact ⟨by assumption, Option.some.inj h⟩
  · cases h
theorem pieces_len (s : ByteArray) : ∀ (d m n : Nat), (pieces s d m n).length ≤ d
  | 0, _, _ => Nat.le_refl _
  | d + 1, m, n => by
    unfold pieces
    split
    · simp only [List.length_cons]; have := pieces_len s d (n + 1) (n + 1); omega
    · have := pieces_len s d m (n + 1); omega

end Go.Proofs.YtkceipkedmfeiaaGreatDoor.X30
