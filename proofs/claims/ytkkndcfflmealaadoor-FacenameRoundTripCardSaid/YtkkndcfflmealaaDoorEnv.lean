/- What the listed package-level variables give to every walk: the bound MaxLen is some number, the two sentinels of strconv are interface values, the powers of ten stand as the text lays them; and that all this stays while only new memory is written. -/
import Derived.Test.YtkkndcfflmealaaDoorShelf
import Derived.Test.YtkkndcfflmealaaDoorWWords
import Derived.Stop.LaidErr
import Derived.WalkSmall
import Derived.Lib.SmallJoins
import Derived.Lib.AppendIntMem
namespace Go.Proofs.YtkkndcfflmealaaDoor
open Go Go.Shelf Go.RowKit Go.Lib

structure Env (w : World) : Prop where
  base : 4 ≤ w.heap.size
  len : ∃ m, w.cell? ⟨0, 0, none⟩ = some (.int .i64 m)
  syn : ∃ tp p, w.var? Tryd.prog "strconv.ErrSyntax" = some #[.iface tp p]
  rng : ∃ tp p, w.var? Tryd.prog "strconv.ErrRange" = some #[.iface tp p]
  tab : Lib.TabIs Tryd.prog w "internal/strconv.uint64pow10" .u64 Lib.pow10Tab

theorem gSyn : Tryd.prog.globalNamed "strconv.ErrSyntax" = some 2 := by kernel_rfl
theorem gRng : Tryd.prog.globalNamed "strconv.ErrRange" = some 3 := by kernel_rfl
theorem gTab : Tryd.prog.globalNamed "internal/strconv.uint64pow10" = some 1 := by kernel_rfl

theorem Env.below {w w' : World} (h : Env w) (hb : Below w.heap.size w w') : Env w' where
  base := Nat.le_trans h.base hb.size
  len := by
    obtain ⟨m, hm⟩ := h.len
    exact ⟨m, (hb.cell (p := ⟨0, 0, none⟩) (by have := h.base; show 0 < _; omega)).trans hm⟩
  syn := by
    obtain ⟨tp, p, hv⟩ := h.syn
    exact ⟨tp, p, var?_below hb gSyn (by have := h.base; omega) hv⟩
  rng := by
    obtain ⟨tp, p, hv⟩ := h.rng
    exact ⟨tp, p, var?_below hb gRng (by have := h.base; omega) hv⟩
  tab := var?_below hb gTab (by have := h.base; omega) h.tab

end Go.Proofs.YtkkndcfflmealaaDoor
