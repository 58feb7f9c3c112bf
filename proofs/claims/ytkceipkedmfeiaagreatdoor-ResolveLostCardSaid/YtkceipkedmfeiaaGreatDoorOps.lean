/- An argument that reads as data reads as a value of the printer's own kinds: integers, bools, strings, structs and slices of these, whatever the nesting; its weight is at most the datum's bulk. The kind of api.Ref, as the printer lays it (this seat's print lays it only where a printed function needs it). Arguments that read as data are values of the printer's kinds, of at most the reading's bulk. Written by wip/tools/mkops.py. -/
import Derived.Test.YtkceipkedmfeiaaGreatDoorWWords
import Derived.Test.YtkceipkedmfeiaaGreatDoorRows
import Derived.Deep.Slices
import Derived.ChangeArms
import Derived.DataReads
import Derived.Test.YtkceipkedmfeiaaGreatDoorX30x0
import Derived.Laws.IdiomArrays
namespace Go.Proofs.YtkceipkedmfeiaaGreatDoor.Opens
open Go Go.RowKit Go.Proofs.YtkceipkedmfeiaaGreatDoorW.PrintWords

def Opens {α : Type} (P : Program) (t : TypeId) (d : Kd α) (wt : α → Nat) (good : α → Prop) : Prop :=
  P.cellsOf t = d.sz ∧ ∀ (H : Type) (enc : TypeId × Value → H) (w : World) (sp : Nat → Bool) (held : Bool) (fuel : Nat) (cs : List Value) (x : DataW H × List MemPlace),
    DataW.trod enc P w 0 sp held fuel t cs = some x → ∃ y, d.K w y cs ∧ good y ∧ wt y ≤ Rows.uptoBulk x.1

def FieldsOpen {α : Type} (P : Program) (fs : List Field) (off : Nat) (d : Kd α) (wt : α → Nat) (good : α → Prop) : Prop :=
  ∀ (H : Type) (enc : TypeId × Value → H) (w : World) (sp : Nat → Bool) (held : Bool) (n : Nat) (cs : List Value) (xs : List (DataW H × List MemPlace)), cs.length = off + d.sz → xs.length = fs.length →
    (∀ (i : Nat) (f : Field), fs[i]? = some f → DataW.trod enc P w 0 sp held n f.type ((cs.drop f.offset).take (P.cellsOf f.type)) = xs[i]?) →
    ∃ y, d.K w y (cs.drop off) ∧ good y ∧ wt y ≤ Rows.uptoBulkAll (xs.map (·.1))

theorem opens_int {P : Program} {t : TypeId} {k : IntKind} (hu : P.underlying t = some (.int k)) (hc : P.cellsOf t = 1) : Opens P t (Kd.int k) (fun _ => 1) (fun n => (Lit.int k n).wf = true) := by
  refine ⟨hc, fun H enc w sp held fuel cs x h => ?_⟩
  obtain ⟨n, e1, e2, hw⟩ := DataW.trod_int hu h
  subst e1; subst e2
  exact ⟨n, rfl, hw, by simp [Rows.uptoBulk]⟩

theorem opens_bool {P : Program} {t : TypeId} (hu : P.underlying t = some .bool) (hc : P.cellsOf t = 1) : Opens P t Kd.bool (fun _ => 1) (fun _ => True) := by
  refine ⟨hc, fun H enc w sp held fuel cs x h => ?_⟩
  obtain ⟨b, e1, e2⟩ := DataW.trod_bool hu h
  subst e1; subst e2
  exact ⟨b, rfl, trivial, by simp [Rows.uptoBulk]⟩

theorem opens_string {P : Program} {t : TypeId} (hu : P.underlying t = some .string) (hc : P.cellsOf t = 1) : Opens P t Kd.string (fun s => s.size + 1) (fun s => s.size ≤ maxLen) := by
  refine ⟨hc, fun H enc w sp held fuel cs x h => ?_⟩
  obtain ⟨s, e1, e2, hs⟩ := DataW.trod_string hu h
  subst e1; subst e2
  exact ⟨s, rfl, hs, by simp [Rows.uptoBulk]⟩

theorem fields_one {α : Type} {P : Program} {f : Field} {off : Nat} {d : Kd α} {wt : α → Nat} {good : α → Prop} (ho : f.offset = off) (h : Opens P f.type d wt good) : FieldsOpen P [f] off d wt good := by
  intro H enc w sp held n cs xs hl hx hf
  have h0 := hf 0 f rfl
  match xs, hx with
  | [x], _ =>
    rw [ho, h.1, List.take_of_length_le (by simp; omega)] at h0
    obtain ⟨y, h1, h2, h3⟩ := h.2 H enc w sp held n _ x (by simpa using h0)
    exact ⟨y, h1, h2, by simpa [Rows.uptoBulkAll] using h3⟩

theorem fields_cons {α β : Type} {P : Program} {f : Field} {fs : List Field} {off off' : Nat} {a : Kd α} {b : Kd β} {wa : α → Nat} {wb : β → Nat} {ga : α → Prop} {gb : β → Prop} (ho : f.offset = off) (ha : Opens P f.type a wa ga)
    (ho' : off' = off + a.sz) (hb : FieldsOpen P fs off' b wb gb) : FieldsOpen P (f :: fs) off (Kd.pair a b) (fun p => wa p.1 + wb p.2) (fun p => ga p.1 ∧ gb p.2) := by
  subst ho'
  intro H enc w sp held n cs xs hl hx hf
  have hl : cs.length = off + (a.sz + b.sz) := hl
  have h0 := hf 0 f rfl
  match xs, hx with
  | x :: xs, hx =>
    rw [ho, ha.1] at h0
    obtain ⟨y, h1, h2, h3⟩ := ha.2 H enc w sp held n _ x (by simpa using h0)
    obtain ⟨z, k1, k2, k3⟩ := hb H enc w sp held n cs xs (by omega) (by simpa using hx) (fun i g hg => by
      have := hf (i + 1) g (by simpa using hg)
      simpa using this)
    refine ⟨(y, z), ⟨(cs.drop off).take a.sz, cs.drop (off + a.sz), ?_, h1, k1⟩, ⟨h2, k2⟩, ?_⟩
    · rw [← List.drop_drop, List.take_append_drop]
    · simp only [List.map_cons, Rows.uptoBulkAll]; omega

theorem fields_iso {α β : Type} {P : Program} {fs : List Field} {off : Nat} {d : Kd α} {wt : α → Nat} {good : α → Prop} (f : β → α) (g : α → β) (hfg : ∀ x, f (g x) = x) (h : FieldsOpen P fs off d wt good) :
    FieldsOpen P fs off (Kd.iso d f) (fun x => wt (f x)) (fun x => good (f x)) := by
  intro H enc w sp held n cs xs hl hx hf
  obtain ⟨y, h1, h2, h3⟩ := h H enc w sp held n cs xs hl hx hf
  exact ⟨g y, by show d.K w (f (g y)) _; rw [hfg]; exact h1, by show good (f (g y)); rw [hfg]; exact h2, by show wt (f (g y)) ≤ _; rw [hfg]; exact h3⟩

theorem opens_struct {α : Type} {P : Program} {t : TypeId} {fs : Array Field} {d : Kd α} {wt : α → Nat} {good : α → Prop} (hu : P.underlying t = some (.struct fs)) (hc : P.cellsOf t = d.sz) (h : FieldsOpen P fs.toList 0 d wt good) : Opens P t d (fun x => wt x + 1) good := by
  refine ⟨hc, fun H enc w sp held fuel cs x hx => ?_⟩
  obtain ⟨xs, n, _, rfl, hl, hlen, hf⟩ := DataW.trod_struct hu hx
  obtain ⟨y, h1, h2, h3⟩ := h H enc w sp held n cs xs (by omega) (by simpa using hlen) (fun i f hi => hf i f (by simpa using hi))
  exact ⟨y, by simpa using h1, h2, by simp only [Rows.uptoBulk]; omega⟩

theorem opens_slice {α : Type} {P : Program} {t e : TypeId} {d : Kd α} {wt : α → Nat} {good : α → Prop} (hu : P.underlying t = some (.slice e)) (hc : P.cellsOf t = 1) (h : Opens P e d wt good) :
    Opens P t (Kd.slice e d) (fun xs => (xs.map wt).sum + 1) (fun xs => xs.length ≤ maxLen ∧ ∀ x ∈ xs, good x) := by
  refine ⟨hc, fun H enc w sp held fuel cs x hx => ?_⟩
  rcases Go.Deep.open_slice hu hx with ⟨rfl, rfl⟩ | ⟨a, len, cap, m, n, D, Pl, rfl, hb, hl, hm, hmm, rfl, hel⟩
  · exact ⟨[], ⟨none, 0, rfl, Nat.le_refl _, ⟨rfl, Nat.zero_le _, fun h => absurd h (Nat.lt_irrefl 0)⟩⟩, ⟨by simp, fun _ h => by cases h⟩, by simp [Rows.uptoBulk]⟩
  · have hlm : len ≤ m := by rw [hmm]; split <;> omega
    have each : ∀ i, i < len → ∃ y, (∃ c, c.length = d.sz ∧ d.K w y c ∧ ∀ j u, c[j]? = some u → w.cell? (a.add (i * d.sz + j)) = some u) ∧ good y ∧ wt y ≤ Rows.uptoBulk (D i) := by
      intro i hi
      obtain ⟨c, h1, h2⟩ := hel i (by omega)
      obtain ⟨y, k1, k2, k3⟩ := h.2 H enc w sp held n c _ h2
      obtain ⟨_, hcl, hcell⟩ := World.cells?_some h1
      rw [h.1] at hcl hcell
      refine ⟨y, ⟨c, hcl, k1, fun j u hj => ?_⟩, k2, k3⟩
      have hjl : j < d.sz := by
        have := (List.getElem?_eq_some_iff.1 hj).1; omega
      have := hcell j hjl
      rw [hj] at this
      rw [← this]
      rw [add_add]
    have exl : ∀ k, k ≤ len → ∃ ys : List α, ys.length = k ∧ (∀ j p, ys[j]? = some p → (∃ c, c.length = d.sz ∧ d.K w p c ∧ ∀ i u, c[i]? = some u → w.cell? (a.add (j * d.sz + i)) = some u) ∧ good p) ∧ (ys.map wt).sum ≤ Rows.uptoBulkAll ((List.range k).map D) := by
      intro k
      induction k with
      | zero => intro _; exact ⟨[], rfl, fun j p h => by simp at h, by simp⟩
      | succ k ih =>
        intro hk
        obtain ⟨ys, h1, h2, h3⟩ := ih (by omega)
        obtain ⟨y, k1, k2, k3⟩ := each k (by omega)
        refine ⟨ys ++ [y], by simp [h1], fun j p hj => ?_, ?_⟩
        · rcases Nat.lt_or_ge j ys.length with h | h
          · rw [List.getElem?_append_left h] at hj; exact h2 j p hj
          · rw [List.getElem?_append_right h] at hj
            have hj0 : j - ys.length = 0 := by
              have := (List.getElem?_eq_some_iff.1 hj).1; simpa using this
            rw [hj0] at hj
            simp only [List.getElem?_cons_zero, Option.some.injEq] at hj
            subst hj
            have : j = k := by omega
            subst this
            exact ⟨k1, k2⟩
        · have happ : ∀ (l l' : List (DataW H)), Rows.uptoBulkAll (l ++ l') = Rows.uptoBulkAll l + Rows.uptoBulkAll l' := by
            intro l l'
            induction l with
            | nil => simp [Rows.uptoBulkAll]
            | cons x l ih => simp only [List.cons_append, Rows.uptoBulkAll, ih]; omega
          rw [List.map_append, List.sum_append, List.range_succ, List.map_append, happ]
          simp [Rows.uptoBulkAll]; omega
    obtain ⟨ys, h1, h2, h3⟩ := exl len (Nat.le_refl _)
    refine ⟨ys, ⟨some a, cap, by rw [h1], by omega, ⟨rfl, by unfold maxLen at hm; omega, fun _ => ⟨a, rfl, fun j p hj => (h2 j p hj).1⟩⟩⟩, ⟨by omega, fun x hx => ?_⟩, ?_⟩
    · obtain ⟨j, hj, rfl⟩ := List.getElem_of_mem hx
      exact (h2 j _ (List.getElem?_eq_getElem hj)).2
    · simp only [Rows.uptoBulk]; omega

end Go.Proofs.YtkceipkedmfeiaaGreatDoor.Opens

namespace Go.Proofs.YtkceipkedmfeiaaGreatDoor.X30
open Go.RowKit Go.Proofs.YtkceipkedmfeiaaGreatDoorW.PrintWords Go.Proofs.YtkceipkedmfeiaaGreatDoorW.PrintLast Go.Proofs.YtkceipkedmfeiaaGreatDoorW.PrintMore
/-! #### struct type 26 -/
structure S26 where
  f0 : ByteArray
  f1 : (List ByteArray)
def z26 : S26 := ⟨(⟨#[]⟩ : ByteArray), ([] : List ByteArray)⟩
def k26 : Kd S26 := Kd.iso (Kd.pair Kd.string (Kd.slice 9 Kd.string)) (fun x : S26 => (x.f0, x.f1))
theorem k26_open {w : World} {x : S26} {cs : List Value} (h : k26.K w x cs) : ∃ A1 c1, cs = [.string x.f0, .slice A1 x.f1.length c1] ∧ x.f1.length ≤ c1 ∧ Kd.string.C w A1 x.f1.length x.f1 := by
  obtain ⟨_, _, rfl, rfl, ⟨A1, c1, rfl, l1, g1⟩⟩ := h
  exact ⟨A1, c1, rfl, l1, g1⟩
def rd_T26 (xs : List S26) (i : Int) : S26 := xs.getD i.toNat z26
end Go.Proofs.YtkceipkedmfeiaaGreatDoor.X30

namespace Go.Proofs.YtkceipkedmfeiaaGreatDoor.X30
open Go Go.RowKit Go.ChangeShapes Go.Proofs.YtkceipkedmfeiaaGreatDoorW.PrintWords Go.Proofs.YtkceipkedmfeiaaGreatDoor.Opens
set_option linter.unusedVariables false
theorem op4 : Opens Tryz.prog 4 Kd.bool (fun _ => 1) (fun _ => True) := opens_bool Tryz.underlying4 (by kernel_rfl)
theorem op9 : Opens Tryz.prog 9 Kd.string (fun s : ByteArray => s.size + 1) (fun s : ByteArray => s.size ≤ maxLen) := opens_string Tryz.underlying9 (by kernel_rfl)
def wt31 (x : S31) : Nat := (fun _ => 1) x.f0 + ((fun s : ByteArray => s.size + 1) x.f1) + 1
def good31 (x : S31) : Prop := (fun _ => True) x.f0 ∧ ((fun s : ByteArray => s.size ≤ maxLen) x.f1)
theorem op31 : Opens Tryz.prog 31 k31 wt31 good31 := by
  have h1 : FieldsOpen Tryz.prog [{ name := "Mag", type := 9, offset := 1, embedded := false, tag := "", pkgPath := "", byteOffset := 8 }] 1 _ _ _ := fields_one rfl op9
  have h0 : FieldsOpen Tryz.prog [{ name := "Neg", type := 4, offset := 0, embedded := false, tag := "", pkgPath := "", byteOffset := 0 }, { name := "Mag", type := 9, offset := 1, embedded := false, tag := "", pkgPath := "", byteOffset := 8 }] 0 _ _ _ := fields_cons rfl op4 rfl h1
  exact opens_struct Tryz.underlying31 (by kernel_rfl) (fields_iso (fun x : S31 => (x.f0, x.f1)) (fun p => ⟨p.1, p.2⟩) (fun _ => rfl) h0)
def wt33 (x : S33) : Nat := wt31 x.f0 + (wt31 x.f1 + (wt31 x.f2 + (wt31 x.f3))) + 1
def good33 (x : S33) : Prop := good31 x.f0 ∧ (good31 x.f1 ∧ (good31 x.f2 ∧ (good31 x.f3)))
theorem op33 : Opens Tryz.prog 33 k33 wt33 good33 := by
  have h3 : FieldsOpen Tryz.prog [{ name := "D", type := 31, offset := 6, embedded := false, tag := "", pkgPath := "", byteOffset := 72 }] 6 _ _ _ := fields_one rfl op31
  have h2 : FieldsOpen Tryz.prog [{ name := "C", type := 31, offset := 4, embedded := false, tag := "", pkgPath := "", byteOffset := 48 }, { name := "D", type := 31, offset := 6, embedded := false, tag := "", pkgPath := "", byteOffset := 72 }] 4 _ _ _ := fields_cons rfl op31 rfl h3
  have h1 : FieldsOpen Tryz.prog [{ name := "B", type := 31, offset := 2, embedded := false, tag := "", pkgPath := "", byteOffset := 24 }, { name := "C", type := 31, offset := 4, embedded := false, tag := "", pkgPath := "", byteOffset := 48 }, { name := "D", type := 31, offset := 6, embedded := false, tag := "", pkgPath := "", byteOffset := 72 }] 2 _ _ _ := fields_cons rfl op31 rfl h2
  have h0 : FieldsOpen Tryz.prog [{ name := "A", type := 31, offset := 0, embedded := false, tag := "", pkgPath := "", byteOffset := 0 }, { name := "B", type := 31, offset := 2, embedded := false, tag := "", pkgPath := "", byteOffset := 24 }, { name := "C", type := 31, offset := 4, embedded := false, tag := "", pkgPath := "", byteOffset := 48 }, { name := "D", type := 31, offset := 6, embedded := false, tag := "", pkgPath := "", byteOffset := 72 }] 0 _ _ _ := fields_cons rfl op31 rfl h1
  exact opens_struct Tryz.underlying33 (by kernel_rfl) (fields_iso (fun x : S33 => (x.f0, x.f1, x.f2, x.f3)) (fun p => ⟨p.1, p.2.1, p.2.2.1, p.2.2.2⟩) (fun _ => rfl) h0)
def wt232 (x : S232) : Nat := wt31 x.f0 + (wt31 x.f1 + (wt31 x.f2 + (wt31 x.f3))) + 1
def good232 (x : S232) : Prop := good31 x.f0 ∧ (good31 x.f1 ∧ (good31 x.f2 ∧ (good31 x.f3)))
theorem op232 : Opens Tryz.prog 232 k232 wt232 good232 := by
  have h3 : FieldsOpen Tryz.prog [{ name := "W", type := 31, offset := 6, embedded := false, tag := "", pkgPath := "", byteOffset := 72 }] 6 _ _ _ := fields_one rfl op31
  have h2 : FieldsOpen Tryz.prog [{ name := "Z", type := 31, offset := 4, embedded := false, tag := "", pkgPath := "", byteOffset := 48 }, { name := "W", type := 31, offset := 6, embedded := false, tag := "", pkgPath := "", byteOffset := 72 }] 4 _ _ _ := fields_cons rfl op31 rfl h3
  have h1 : FieldsOpen Tryz.prog [{ name := "Y", type := 31, offset := 2, embedded := false, tag := "", pkgPath := "", byteOffset := 24 }, { name := "Z", type := 31, offset := 4, embedded := false, tag := "", pkgPath := "", byteOffset := 48 }, { name := "W", type := 31, offset := 6, embedded := false, tag := "", pkgPath := "", byteOffset := 72 }] 2 _ _ _ := fields_cons rfl op31 rfl h2
  have h0 : FieldsOpen Tryz.prog [{ name := "X", type := 31, offset := 0, embedded := false, tag := "", pkgPath := "", byteOffset := 0 }, { name := "Y", type := 31, offset := 2, embedded := false, tag := "", pkgPath := "", byteOffset := 24 }, { name := "Z", type := 31, offset := 4, embedded := false, tag := "", pkgPath := "", byteOffset := 48 }, { name := "W", type := 31, offset := 6, embedded := false, tag := "", pkgPath := "", byteOffset := 72 }] 0 _ _ _ := fields_cons rfl op31 rfl h1
  exact opens_struct Tryz.underlying232 (by kernel_rfl) (fields_iso (fun x : S232 => (x.f0, x.f1, x.f2, x.f3)) (fun p => ⟨p.1, p.2.1, p.2.2.1, p.2.2.2⟩) (fun _ => rfl) h0)
theorem op3 : Opens Tryz.prog 3 (Kd.int .i64) (fun _ => 1) (fun n => (Lit.int .i64 n).wf = true) := opens_int Tryz.underlying3 (by kernel_rfl)
def wt234 (x : S234) : Nat := wt232 x.f0 + (wt232 x.f1 + ((fun _ => 1) x.f2)) + 1
def good234 (x : S234) : Prop := good232 x.f0 ∧ (good232 x.f1 ∧ ((fun n => (Lit.int .i64 n).wf = true) x.f2))
theorem op234 : Opens Tryz.prog 234 k234 wt234 good234 := by
  have h2 : FieldsOpen Tryz.prog [{ name := "N", type := 3, offset := 16, embedded := false, tag := "", pkgPath := "", byteOffset := 192 }] 16 _ _ _ := fields_one rfl op3
  have h1 : FieldsOpen Tryz.prog [{ name := "B", type := 232, offset := 8, embedded := false, tag := "", pkgPath := "", byteOffset := 96 }, { name := "N", type := 3, offset := 16, embedded := false, tag := "", pkgPath := "", byteOffset := 192 }] 8 _ _ _ := fields_cons rfl op232 rfl h2
  have h0 : FieldsOpen Tryz.prog [{ name := "A", type := 232, offset := 0, embedded := false, tag := "", pkgPath := "", byteOffset := 0 }, { name := "B", type := 232, offset := 8, embedded := false, tag := "", pkgPath := "", byteOffset := 96 }, { name := "N", type := 3, offset := 16, embedded := false, tag := "", pkgPath := "", byteOffset := 192 }] 0 _ _ _ := fields_cons rfl op232 rfl h1
  exact opens_struct Tryz.underlying234 (by kernel_rfl) (fields_iso (fun x : S234 => (x.f0, x.f1, x.f2)) (fun p => ⟨p.1, p.2.1, p.2.2⟩) (fun _ => rfl) h0)
theorem op40 : Opens Tryz.prog 40 (Kd.slice 234 k234) (fun xs => (xs.map wt234).sum + 1) (fun xs => xs.length ≤ maxLen ∧ ∀ x ∈ xs, good234 x) := opens_slice Tryz.underlying40 (by kernel_rfl) op234
theorem op41 : Opens Tryz.prog 41 (Kd.slice 33 k33) (fun xs => (xs.map wt33).sum + 1) (fun xs => xs.length ≤ maxLen ∧ ∀ x ∈ xs, good33 x) := opens_slice Tryz.underlying41 (by kernel_rfl) op33
def wt43 (x : S43) : Nat := wt33 x.f0 + ((fun xs => (xs.map wt234).sum + 1) x.f1 + ((fun xs => (xs.map wt33).sum + 1) x.f2)) + 1
def good43 (x : S43) : Prop := good33 x.f0 ∧ ((fun xs => xs.length ≤ maxLen ∧ ∀ x ∈ xs, good234 x) x.f1 ∧ ((fun xs => xs.length ≤ maxLen ∧ ∀ x ∈ xs, good33 x) x.f2))
theorem op43 : Opens Tryz.prog 43 k43 wt43 good43 := by
  have h2 : FieldsOpen Tryz.prog [{ name := "Adjacent", type := 41, offset := 9, embedded := false, tag := "", pkgPath := "", byteOffset := 120 }] 9 _ _ _ := fields_one rfl op41
  have h1 : FieldsOpen Tryz.prog [{ name := "Segments", type := 40, offset := 8, embedded := false, tag := "", pkgPath := "", byteOffset := 96 }, { name := "Adjacent", type := 41, offset := 9, embedded := false, tag := "", pkgPath := "", byteOffset := 120 }] 8 _ _ _ := fields_cons rfl op40 rfl h2
  have h0 : FieldsOpen Tryz.prog [{ name := "Plane", type := 33, offset := 0, embedded := false, tag := "", pkgPath := "", byteOffset := 0 }, { name := "Segments", type := 40, offset := 8, embedded := false, tag := "", pkgPath := "", byteOffset := 96 }, { name := "Adjacent", type := 41, offset := 9, embedded := false, tag := "", pkgPath := "", byteOffset := 120 }] 0 _ _ _ := fields_cons rfl op33 rfl h1
  exact opens_struct Tryz.underlying43 (by kernel_rfl) (fields_iso (fun x : S43 => (x.f0, x.f1, x.f2)) (fun p => ⟨p.1, p.2.1, p.2.2⟩) (fun _ => rfl) h0)
theorem op22 : Opens Tryz.prog 22 (Kd.slice 43 k43) (fun xs => (xs.map wt43).sum + 1) (fun xs => xs.length ≤ maxLen ∧ ∀ x ∈ xs, good43 x) := opens_slice Tryz.underlying22 (by kernel_rfl) op43
def wt50 (x : S50) : Nat := (fun s : ByteArray => s.size + 1) x.f0 + (wt33 x.f1) + 1
def good50 (x : S50) : Prop := (fun s : ByteArray => s.size ≤ maxLen) x.f0 ∧ (good33 x.f1)
theorem op50 : Opens Tryz.prog 50 k50 wt50 good50 := by
  have h1 : FieldsOpen Tryz.prog [{ name := "Plane", type := 33, offset := 1, embedded := false, tag := "", pkgPath := "", byteOffset := 16 }] 1 _ _ _ := fields_one rfl op33
  have h0 : FieldsOpen Tryz.prog [{ name := "Term", type := 9, offset := 0, embedded := false, tag := "", pkgPath := "", byteOffset := 0 }, { name := "Plane", type := 33, offset := 1, embedded := false, tag := "", pkgPath := "", byteOffset := 16 }] 0 _ _ _ := fields_cons rfl op9 rfl h1
  exact opens_struct Tryz.underlying50 (by kernel_rfl) (fields_iso (fun x : S50 => (x.f0, x.f1)) (fun p => ⟨p.1, p.2⟩) (fun _ => rfl) h0)
theorem op23 : Opens Tryz.prog 23 (Kd.slice 50 k50) (fun xs => (xs.map wt50).sum + 1) (fun xs => xs.length ≤ maxLen ∧ ∀ x ∈ xs, good50 x) := opens_slice Tryz.underlying23 (by kernel_rfl) op50
theorem op24 : Opens Tryz.prog 24 (Kd.slice 9 Kd.string) (fun xs => (xs.map (fun s : ByteArray => s.size + 1)).sum + 1) (fun xs => xs.length ≤ maxLen ∧ ∀ x ∈ xs, (fun s : ByteArray => s.size ≤ maxLen) x) := opens_slice Tryz.underlying24 (by kernel_rfl) op9
def wt26 (x : S26) : Nat := (fun s : ByteArray => s.size + 1) x.f0 + ((fun xs => (xs.map (fun s : ByteArray => s.size + 1)).sum + 1) x.f1) + 1
def good26 (x : S26) : Prop := (fun s : ByteArray => s.size ≤ maxLen) x.f0 ∧ ((fun xs => xs.length ≤ maxLen ∧ ∀ x ∈ xs, (fun s : ByteArray => s.size ≤ maxLen) x) x.f1)
theorem op26 : Opens Tryz.prog 26 k26 wt26 good26 := by
  have h1 : FieldsOpen Tryz.prog [{ name := "Adjacent", type := 24, offset := 1, embedded := false, tag := "", pkgPath := "", byteOffset := 16 }] 1 _ _ _ := fields_one rfl op24
  have h0 : FieldsOpen Tryz.prog [{ name := "Term", type := 9, offset := 0, embedded := false, tag := "", pkgPath := "", byteOffset := 0 }, { name := "Adjacent", type := 24, offset := 1, embedded := false, tag := "", pkgPath := "", byteOffset := 16 }] 0 _ _ _ := fields_cons rfl op9 rfl h1
  exact opens_struct Tryz.underlying26 (by kernel_rfl) (fields_iso (fun x : S26 => (x.f0, x.f1)) (fun p => ⟨p.1, p.2⟩) (fun _ => rfl) h0)
end Go.Proofs.YtkceipkedmfeiaaGreatDoor.X30
