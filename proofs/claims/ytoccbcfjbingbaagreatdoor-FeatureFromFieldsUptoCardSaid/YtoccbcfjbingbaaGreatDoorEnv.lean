/- What the listed package-level variables give to every walk: the bound MaxLen is some number, the two sentinels of strconv are interface values, the powers of ten stand as the text lays them, the table of the features' kinds reads as the text lays it; and that all this stays while only new memory is written. -/
import Derived.Test.YtoccbcfjbingbaaGreatDoorShelf
import Derived.Test.YtoccbcfjbingbaaGreatDoorWWords
import Derived.Test.YtoccbcfjbingbaaGreatDoorRows
import Derived.Deep.Slices
import Derived.ChangeArms
import Derived.ChangeSame
import Derived.Stop.LaidErr
import Derived.WalkSmall
import Derived.Lib.SmallJoins
import Derived.Lib.AppendIntMem
namespace Go.Proofs.YtoccbcfjbingbaaGreatDoor
open Go Go.Shelf Go.RowKit Go.Lib Go.Proofs.YtoccbcfjbingbaaGreatDoorW.PrintWords
def bs (l : List UInt8) : ByteArray := ⟨l.toArray⟩
def sOn : ByteArray := ⟨#[111, 110]⟩
def sAnd : ByteArray := ⟨#[97, 110, 100]⟩
def sSketch : ByteArray := ⟨#[115, 107, 101, 116, 99, 104]⟩
def sAmount : ByteArray := ⟨#[97, 109, 111, 117, 110, 116]⟩
def sCount : ByteArray := ⟨#[99, 111, 117, 110, 116]⟩
def sX : ByteArray := ⟨#[120]⟩
def sY : ByteArray := ⟨#[121]⟩
def sZ : ByteArray := ⟨#[122]⟩
def kKind : Kd (ByteArray × List ByteArray) := Kd.pair Kd.string (Kd.slice 9 Kd.string)
def kindTab : List (ByteArray × List ByteArray) :=
 [(⟨#[101, 120, 116, 114, 117, 100, 101]⟩, [sOn, sSketch, sAmount]), (⟨#[99, 117, 116]⟩, [sOn, sSketch, sAmount]), (⟨#[99, 104, 97, 109, 102, 101, 114]⟩, [sOn, sAnd, sAmount]), (⟨#[109, 105, 114, 114, 111, 114]⟩, [sOn]),
  (⟨#[112, 97, 116, 116, 101, 114, 110]⟩, [sCount, sX, sY, sZ]), (⟨#[109, 111, 118, 101]⟩, [sX, sY, sZ]), (⟨#[116, 117, 114, 110]⟩, [sSketch, sCount]), (⟨#[108, 97, 98, 101, 108]⟩, [sOn, sSketch])]
def As {α : Type} (t : TypeId) (d : Kd α) (out : α → DataW Unit) : Prop :=
 Tryz.prog.cellsOf t = d.sz ∧ ∀ (w : World) (fuel : Nat) (cs : List Value) (x : DataW Unit × List MemPlace) (y : α), DataW.trod (fun _ => ()) Tryz.prog w 0 (fun _ => true) false fuel t cs = some x → x.1 = out y → d.K w y cs
def outStr (y : ByteArray) : DataW Unit := .lit (.string y.data.toList)
theorem as_string {t : TypeId} (hu : Tryz.prog.underlying t = some .string) (hc : Tryz.prog.cellsOf t = 1) : As t Kd.string outStr := by
 refine ⟨hc, fun w fuel cs x y h hx => ?_⟩
 obtain ⟨s, rfl, rfl, hs⟩ := DataW.trod_string hu h
 have : s = y := by
  simp only [outStr, DataW.lit.injEq, Lit.string.injEq] at hx
  cases s; cases y
  simp only [ByteArray.mk.injEq] at hx ⊢
  exact Array.toList_inj.1 hx
 subst this
 rfl
theorem as_slice {α : Type} {t e : TypeId} {d : Kd α} {out : α → DataW Unit} (hu : Tryz.prog.underlying t = some (.slice e)) (hc : Tryz.prog.cellsOf t = 1) (h : As e d out) : As t (Kd.slice e d) (fun ys => .slice (ys.map out) []) := by
 refine ⟨hc, fun w fuel cs x ys hx hy => ?_⟩
 rcases Go.Deep.open_slice hu hx with ⟨rfl, rfl⟩ | ⟨a, len, cap, m, n, D, Pl, rfl, hb, hl, hm, hmm, rfl, hel⟩
 · cases hy
 · simp only [if_true] at hmm
   subst hmm
   simp only [DataW.slice.injEq] at hy
   obtain ⟨h1, -⟩ := hy
   have hlen : ys.length = len := by have := congrArg List.length h1; simpa using this.symm
   refine ⟨some a, m, by rw [hlen], by omega, hlen ▸ ⟨hlen, by unfold maxLen at hm; omega, fun _ => ⟨a, rfl, fun j p hj => ?_⟩⟩⟩
   have hjl : j < len := by have := (List.getElem?_eq_some_iff.1 hj).1; omega
   obtain ⟨c, k1, k2⟩ := hel j (by omega)
   obtain ⟨_, hcl, hcell⟩ := World.cells?_some k1
   rw [h.1] at hcl hcell
   have hD : D j = out p := by
    have := congrArg (fun l => l[j]?) h1
    simp only [List.getElem?_map, List.getElem?_range hjl, hj, Option.map_some, Option.some.injEq] at this
    exact this
   refine ⟨c, hcl, h.2 w n c _ p k2 hD, fun i u hi => ?_⟩
   have hil : i < d.sz := by have := (List.getElem?_eq_some_iff.1 hi).1; omega
   have := hcell i hil
   rw [hi] at this
   rw [← this, add_add]
theorem as_kind {t : TypeId} {f0 f1 : Field} (hu : Tryz.prog.underlying t = some (.struct #[f0, f1])) (hc : Tryz.prog.cellsOf t = 2) (h0 : f0.offset = 0) (h1 : f1.offset = 1) (hs0 : Tryz.prog.underlying f0.type = some .string) (hc0 : Tryz.prog.cellsOf f0.type = 1)
 {e : TypeId} (hs1 : Tryz.prog.underlying f1.type = some (.slice e)) (hc1 : Tryz.prog.cellsOf f1.type = 1) (hse : Tryz.prog.underlying e = some .string) (hce : Tryz.prog.cellsOf e = 1) :
 As t (Kd.pair Kd.string (Kd.slice e Kd.string)) (fun y => .agg [outStr y.1, .slice (y.2.map outStr) []]) := by
 refine ⟨hc, fun w fuel cs x y hx hy => ?_⟩
 obtain ⟨y0, y1, n, rfl, hl, g0, g1⟩ := ChangeShapes.trod_struct2 hu hx
 simp only [DataW.agg.injEq, List.cons.injEq, and_true] at hy
 rw [hc0, h0] at g0
 rw [hc1, h1] at g1
 refine ⟨cs.take 1, cs.drop 1, (List.take_append_drop 1 cs).symm, ?_, ?_⟩
 · exact (as_string hs0 hc0).2 w n _ _ _ (by simpa using g0) hy.1
 · have hl1 : (cs.drop 1).length = 1 := by rw [List.length_drop, hl, hc]
   exact (as_slice hs1 hc1 (as_string hse hce)).2 w n _ _ _ (by rwa [List.take_of_length_le (by omega)] at g1) hy.2
structure Env (w : World) : Prop where
 base : 7 ≤ w.heap.size
 len : ∃ m, w.cell? ⟨1, 0, none⟩ = some (.int .i64 m)
 syn : ∃ tp p, w.var? Tryz.prog "strconv.ErrSyntax" = some #[.iface tp p]
 rng : ∃ tp p, w.var? Tryz.prog "strconv.ErrRange" = some #[.iface tp p]
 tab : Lib.TabIs Tryz.prog w "internal/strconv.uint64pow10" .u64 Lib.pow10Tab
 kinds : ∃ A c, w.cell? ⟨0, 0, none⟩ = some (.slice A kindTab.length c) ∧ kindTab.length ≤ c ∧ Kd.C kKind w A kindTab.length kindTab
theorem gSyn : Tryz.prog.globalNamed "strconv.ErrSyntax" = some 5 := by kernel_rfl
theorem gRng : Tryz.prog.globalNamed "strconv.ErrRange" = some 6 := by kernel_rfl
theorem gTab : Tryz.prog.globalNamed "internal/strconv.uint64pow10" = some 2 := by kernel_rfl
theorem gKinds : Tryz.prog.globalNamed "voussoir/feature.kinds" = some 0 := by kernel_rfl
theorem gKindsType : (Tryz.prog.globals[0]?).map (·.type) = some 64 := by kernel_rfl
theorem kinds_of_laid {W : World} {rest : List (String × DataW Unit)} (h : laidMet Tryz.prog (("voussoir/feature.kinds", Rows.laid_voussoir_feature_kinds) :: rest) W) :
 ∃ A c, W.cell? ⟨0, 0, none⟩ = some (.slice A kindTab.length c) ∧ kindTab.length ≤ c ∧ Kd.C kKind W A kindTab.length kindTab := by
 obtain ⟨ps, ⟨g', t', cs, fuel, p, q, hg', ht', hvar, hd, _, _⟩, _⟩ := h
 obtain rfl := Option.some.inj (gKinds.symm.trans hg')
 obtain rfl := Option.some.inj (gKindsType.symm.trans ht')
 have hk : As 65 kKind (fun y => .agg [outStr y.1, .slice (y.2.map outStr) []]) :=
  as_kind Tryz.underlying65 (by kernel_rfl) (by kernel_rfl) (by kernel_rfl) (by kernel_rfl) (by kernel_rfl) (by kernel_rfl) (by kernel_rfl) (by kernel_rfl) (by kernel_rfl)
 have := (as_slice (t := 64) Tryz.underlying64 (by kernel_rfl) hk).2 W fuel cs.toList _ kindTab hd (by kernel_rfl)
 obtain ⟨A, c, e, hc, hC⟩ := this
 refine ⟨A, c, ?_, hc, hC⟩
 have h0 := World.var?_cell gKinds hvar 0
 rw [h0]
 have : cs.toList[0]? = some (.slice A kindTab.length c) := by rw [e]; rfl
 simpa using this
theorem Env.below {w w' : World} (h : Env w) (hb : Below w.heap.size w w') : Env w' where
 base := Nat.le_trans h.base hb.size
 len := by
  obtain ⟨m, hm⟩ := h.len
  exact ⟨m, (hb.cell (p := ⟨1, 0, none⟩) (by have := h.base; show 1 < _; omega)).trans hm⟩
 syn := by
  obtain ⟨tp, p, hv⟩ := h.syn
  exact ⟨tp, p, var?_below hb gSyn (by have := h.base; omega) hv⟩
 rng := by
  obtain ⟨tp, p, hv⟩ := h.rng
  exact ⟨tp, p, var?_below hb gRng (by have := h.base; omega) hv⟩
 tab := var?_below hb gTab (by have := h.base; omega) h.tab
 kinds := by
  obtain ⟨A, c, h1, h2, h3⟩ := h.kinds
  exact ⟨A, c, (hb.cell (p := ⟨0, 0, none⟩) (by have := h.base; show 0 < _; omega)).trans h1, h2, Kd.C_below h3 hb⟩
end Go.Proofs.YtoccbcfjbingbaaGreatDoor
