/- What renaming the planes of the faces and of the table changes: nothing but the planes. -/
import Derived.Test.YtkceipkedmfeiaaGreatDoorREF
namespace Go.Proofs.YtkceipkedmfeiaaGreatDoor.XL
open Go Go.RowKit Go.Shelf

theorem plEq_iff (p q : PL) : plEq p q = true ↔ p = q := by
  obtain ⟨⟨a0, a1⟩, ⟨b0, b1⟩, ⟨c0, c1⟩, ⟨d0, d1⟩⟩ := p
  obtain ⟨⟨e0, e1⟩, ⟨f0, f1⟩, ⟨g0, g1⟩, ⟨h0, h1⟩⟩ := q
  unfold plEq
  simp only [Bool.and_eq_true, beq_iff_eq]
  constructor
  · rintro ⟨⟨rfl, x1⟩, ⟨rfl, x2⟩, ⟨rfl, x3⟩, rfl, x4⟩
    rw [ba_inj x1, ba_inj x2, ba_inj x3, ba_inj x4]
  · intro h
    injection h with h1 h2 h3 h4
    injection h1 with x1 y1
    injection h2 with x2 y2
    injection h3 with x3 y3
    injection h4 with x4 y4
    subst x1 x2 x3 x4 y1 y2 y3 y4
    exact ⟨⟨rfl, rfl⟩, ⟨rfl, rfl⟩, ⟨rfl, rfl⟩, rfl, rfl⟩
theorem plEq_refl (p : PL) : plEq p p = true := (plEq_iff p p).2 rfl
def turn (p : PL) : PL := ⟨p.f1, p.f0, p.f2, p.f3⟩
def turnN (e : NP) : NP := ⟨e.f0, turn e.f1⟩
def turnF (x : FC) : FC := ⟨turn x.f0, [], x.f2.map turn⟩
theorem turn_turn (p : PL) : turn (turn p) = p := rfl
theorem plEq_turn (p q : PL) : plEq (turn p) (turn q) = plEq p q := by
  rw [Bool.eq_iff_iff, plEq_iff, plEq_iff]
  exact ⟨fun h => by rw [← turn_turn p, h, turn_turn], fun h => by rw [h]⟩
theorem hasPl_turn (l : List PL) (q : PL) : hasPl (l.map turn) (turn q) = hasPl l q := by
  unfold hasPl
  rw [List.any_map]
  congr 1
  funext x
  exact plEq_turn q x
theorem lookR_turn (s : ByteArray) (t : List NP) : lookR s (t.map turnN) = (turn (lookR s t).1, (lookR s t).2) := by
  unfold lookR lookup
  rw [List.find?_map, show (npHit s ∘ turnN) = npHit s from rfl]
  cases t.find? (npHit s) <;> rfl
theorem near_turn (t : List NP) (x : FC) (s : ByteArray) : near (t.map turnN) (turnF x) s = near t x s := by
  unfold near
  rw [lookR_turn]
  simp only
  rw [show (turnF x).f2 = x.f2.map turn from rfl, hasPl_turn]
theorem score_turn (t : List NP) (adj : List ByteArray) (x : FC) : score (t.map turnN) adj (turnF x) = score t adj x := by
  unfold score
  rw [show near (t.map turnN) (turnF x) = near t x from funext (near_turn t x)]
theorem scan_turn (t : List NP) (adj : List ByteArray) (p : PL) : ∀ (l : List FC) (n best : Nat) (ps : List Int), scanGo (t.map turnN) adj (turn p) (l.map turnF) n best ps = scanGo t adj p l n best ps
  | [], _, _, _ => rfl
  | x :: l, n, best, ps => by
    rw [List.map_cons, scanGo, scanGo, score_turn, show plEq (turnF x).f0 (turn p) = plEq x.f0 p from plEq_turn _ _, scan_turn, scan_turn, scan_turn]
theorem resolveF_turn (L : List FC) (t : List NP) (T : ByteArray) (adj : List ByteArray) (hT : (T.toList == [103, 114, 111, 117, 110, 100]) = false) : resolveF (L.map turnF) (t.map turnN) T adj = ((resolveF L t T adj).1, turn (resolveF L t T adj).2.1, (resolveF L t T adj).2.2) := by
  have e : ∀ (L : List FC) (t : List NP), resolveF L t T adj = (if (lookR T t).2 = true then outOf (lookR T t).1 (scanGo t adj (lookR T t).1 L 0 0 []) else (3, plZ, [])) := fun L t => by
    unfold resolveF
    rw [if_neg (by rw [hT]; exact Bool.false_ne_true)]
  rw [e, e, lookR_turn]
  simp only
  rw [scan_turn]
  split
  · generalize scanGo t adj (lookR T t).1 L 0 0 [] = ps
    match ps with
    | [] => rfl
    | [_] => rfl
    | _ :: _ :: _ => rfl
  · rfl
theorem names_turn (t : List NP) (p : PL) : names (t.map turnN) (turn p) = names t p := by
  unfold names
  rw [List.filter_map, List.map_map, show ((fun x : NP => plEq x.f1 (turn p)) ∘ turnN) = (fun x => plEq x.f1 p) from funext fun x => plEq_turn x.f1 p]
  rfl
end Go.Proofs.YtkceipkedmfeiaaGreatDoor.XL
