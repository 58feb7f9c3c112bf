/- What the listed package-level variables give to every walk: the bound MaxLen is some number, the two sentinels of strconv are interface values, the powers of ten stand as the text lays them; and that all this stays while only new memory is written. -/
import Derived.Test.YtkceipkedmfeiaaGreatDoorShelf
import Derived.Test.YtkceipkedmfeiaaGreatDoorWWords
import Derived.Stop.LaidErr
import Derived.WalkSmall
import Derived.Lib.SmallJoins
import Derived.Lib.AppendIntMem
namespace Go.Proofs.YtkceipkedmfeiaaGreatDoor
open Go Go.Shelf Go.RowKit Go.Lib

structure Env (w : World) : Prop where
  base : 7 ≤ w.heap.size
  len : ∃ m, w.cell? ⟨0, 0, none⟩ = some (.int .i64 m)
  syn : ∃ tp p, w.var? Tryz.prog "strconv.ErrSyntax" = some #[.iface tp p]
  rng : ∃ tp p, w.var? Tryz.prog "strconv.ErrRange" = some #[.iface tp p]
  tab : Lib.TabIs Tryz.prog w "internal/strconv.uint64pow10" .u64 Lib.pow10Tab

theorem gSyn : Tryz.prog.globalNamed "strconv.ErrSyntax" = some 3 := by kernel_rfl
theorem gRng : Tryz.prog.globalNamed "strconv.ErrRange" = some 4 := by kernel_rfl
theorem gTab : Tryz.prog.globalNamed "internal/strconv.uint64pow10" = some 6 := by kernel_rfl

theorem Env.below {w w' : World} (h : Env w) (hb : Below w.heap.size w w') : Env w' where
  base := Nat.le_trans h.base hb.size
  len := by
    obtain ⟨m, hm⟩ := h.len
    exact ⟨m, (hb.cell (p := ⟨0, 0, none⟩) (by have := h.base; show 0 < _; omega)).trans hm⟩
  syn := by
    obtain ⟨tp, p, hv⟩ := h.syn
    exact ⟨tp, p, var?_below hb gSyn (by have := h.base; omega) hv⟩
  rng := by
    obtain ⟨tp, p, hv⟩ := h.rng
    exact ⟨tp, p, var?_below hb gRng (by have := h.base; omega) hv⟩
  tab := var?_below hb gTab (by have := h.base; omega) h.tab

/-- Only the bound MaxLen. -/
structure EnvL (w : World) : Prop where
  base : 0 < w.heap.size
  len : ∃ m, w.cell? ⟨0, 0, none⟩ = some (.int .i64 m)
theorem EnvL.below {w w' : World} (h : EnvL w) (hb : Below w.heap.size w w') : EnvL w' where
  base := Nat.lt_of_lt_of_le h.base hb.size
  len := by
    obtain ⟨m, hm⟩ := h.len
    exact ⟨m, (hb.cell (p := ⟨0, 0, none⟩) (by have := h.base; show 0 < _; omega)).trans hm⟩
theorem Env.toL {w : World} (h : Env w) : EnvL w := ⟨by have := h.base; omega, h.len⟩

end Go.Proofs.YtkceipkedmfeiaaGreatDoor
