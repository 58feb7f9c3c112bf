/- An argument that reads as data reads as a value of the printer's own kinds: integers, bools, strings, structs and slices of these, whatever the nesting; its weight is at most the datum's bulk. Arguments that read as data are values of the printer's kinds, of at most the reading's bulk. Written by wip/tools/mkops.py. -/
import Derived.Test.YtoccbcfjbingbaaGreatDoorWWords
import Derived.Test.YtoccbcfjbingbaaGreatDoorRows
import Derived.Deep.Slices
import Derived.ChangeArms
import Derived.DataReads
import Derived.Laws.IdiomArrays
import Derived.Test.YtoccbcfjbingbaaGreatDoorX30x0
namespace Go.Proofs.YtoccbcfjbingbaaGreatDoor.Opens
open Go Go.RowKit Go.Proofs.YtoccbcfjbingbaaGreatDoorW.PrintWords
def Opens {α : Type} (P : Program) (t : TypeId) (d : Kd α) (wt : α → Nat) (good : α → Prop) : Prop :=
 P.cellsOf t = d.sz ∧ ∀ (H : Type) (enc : TypeId × Value → H) (w : World) (sp : Nat → Bool) (held : Bool) (fuel : Nat) (cs : List Value) (x : DataW H × List MemPlace),
  DataW.trod enc P w 0 sp held fuel t cs = some x → ∃ y, d.K w y cs ∧ good y ∧ wt y ≤ Rows.uptoBulk x.1
def FieldsOpen {α : Type} (P : Program) (fs : List Field) (off : Nat) (d : Kd α) (wt : α → Nat) (good : α → Prop) : Prop :=
 ∀ (H : Type) (enc : TypeId × Value → H) (w : World) (sp : Nat → Bool) (held : Bool) (n : Nat) (cs : List Value) (xs : List (DataW H × List MemPlace)), cs.length = off + d.sz → xs.length = fs.length →
  (∀ (i : Nat) (f : Field), fs[i]? = some f → DataW.trod enc P w 0 sp held n f.type ((cs.drop f.offset).take (P.cellsOf f.type)) = xs[i]?) →
  ∃ y, d.K w y (cs.drop off) ∧ good y ∧ wt y ≤ Rows.uptoBulkAll (xs.map (·.1))
theorem opens_int {P : Program} {t : TypeId} {k : IntKind} (hu : P.underlying t = some (.int k)) (hc : P.cellsOf t = 1) : Opens P t (Kd.int k) (fun _ => 1) (fun n => (Lit.int k n).wf = true) := by
 refine ⟨hc, fun H enc w sp held fuel cs x h => ?_⟩
 obtain ⟨n, e1, e2, hw⟩ := DataW.trod_int hu h
 subst e1; subst e2
 exact ⟨n, rfl, hw, by simp [Rows.uptoBulk]⟩
theorem opens_string {P : Program} {t : TypeId} (hu : P.underlying t = some .string) (hc : P.cellsOf t = 1) : Opens P t Kd.string (fun s => s.size + 1) (fun s => s.size ≤ maxLen) := by
 refine ⟨hc, fun H enc w sp held fuel cs x h => ?_⟩
 obtain ⟨s, e1, e2, hs⟩ := DataW.trod_string hu h
 subst e1; subst e2
 exact ⟨s, rfl, hs, by simp [Rows.uptoBulk]⟩
theorem fields_one {α : Type} {P : Program} {f : Field} {off : Nat} {d : Kd α} {wt : α → Nat} {good : α → Prop} (ho : f.offset = off) (h : Opens P f.type d wt good) : FieldsOpen P [f] off d wt good := by
 intro H enc w sp held n cs xs hl hx hf
 have h0 := hf 0 f rfl
 match xs, hx with
 | [x], _ =>
  rw [ho, h.1, List.take_of_length_le (by simp; omega)] at h0
  obtain ⟨y, h1, h2, h3⟩ := h.2 H enc w sp held n _ x (by simpa using h0)
  exact ⟨y, h1, h2, by simpa [Rows.uptoBulkAll] using h3⟩
theorem fields_cons {α β : Type} {P : Program} {f : Field} {fs : List Field} {off off' : Nat} {a : Kd α} {b : Kd β} {wa : α → Nat} {wb : β → Nat} {ga : α → Prop} {gb : β → Prop} (ho : f.offset = off) (ha : Opens P f.type a wa ga)
 (ho' : off' = off + a.sz) (hb : FieldsOpen P fs off' b wb gb) : FieldsOpen P (f :: fs) off (Kd.pair a b) (fun p => wa p.1 + wb p.2) (fun p => ga p.1 ∧ gb p.2) := by
 subst ho'
 intro H enc w sp held n cs xs hl hx hf
 have hl : cs.length = off + (a.sz + b.sz) := hl
 have h0 := hf 0 f rfl
 match xs, hx with
 | x :: xs, hx =>
  rw [ho, ha.1] at h0
  obtain ⟨y, h1, h2, h3⟩ := ha.2 H enc w sp held n _ x (by simpa using h0)
  obtain ⟨z, k1, k2, k3⟩ := hb H enc w sp held n cs xs (by omega) (by simpa using hx) (fun i g hg => by
   have := hf (i + 1) g (by simpa using hg)
   simpa using this)
  refine ⟨(y, z), ⟨(cs.drop off).take a.sz, cs.drop (off + a.sz), ?_, h1, k1⟩, ⟨h2, k2⟩, ?_⟩
  · rw [← List.drop_drop, List.take_append_drop]
  · simp only [List.map_cons, Rows.uptoBulkAll]; omega
theorem fields_iso {α β : Type} {P : Program} {fs : List Field} {off : Nat} {d : Kd α} {wt : α → Nat} {good : α → Prop} (f : β → α) (g : α → β) (hfg : ∀ x, f (g x) = x) (h : FieldsOpen P fs off d wt good) :
 FieldsOpen P fs off (Kd.iso d f) (fun x => wt (f x)) (fun x => good (f x)) := by
 intro H enc w sp held n cs xs hl hx hf
 obtain ⟨y, h1, h2, h3⟩ := h H enc w sp held n cs xs hl hx hf
 exact ⟨g y, by show d.K w (f (g y)) _; rw [hfg]; exact h1, by show good (f (g y)); rw [hfg]; exact h2, by show wt (f (g y)) ≤ _; rw [hfg]; exact h3⟩
theorem opens_struct {α : Type} {P : Program} {t : TypeId} {fs : Array Field} {d : Kd α} {wt : α → Nat} {good : α → Prop} (hu : P.underlying t = some (.struct fs)) (hc : P.cellsOf t = d.sz) (h : FieldsOpen P fs.toList 0 d wt good) : Opens P t d (fun x => wt x + 1) good := by
 refine ⟨hc, fun H enc w sp held fuel cs x hx => ?_⟩
 obtain ⟨xs, n, _, rfl, hl, hlen, hf⟩ := DataW.trod_struct hu hx
 obtain ⟨y, h1, h2, h3⟩ := h H enc w sp held n cs xs (by omega) (by simpa using hlen) (fun i f hi => hf i f (by simpa using hi))
 exact ⟨y, by simpa using h1, h2, by simp only [Rows.uptoBulk]; omega⟩
theorem opens_slice {α : Type} {P : Program} {t e : TypeId} {d : Kd α} {wt : α → Nat} {good : α → Prop} (hu : P.underlying t = some (.slice e)) (hc : P.cellsOf t = 1) (h : Opens P e d wt good) :
 Opens P t (Kd.slice e d) (fun xs => (xs.map wt).sum + 1) (fun xs => xs.length ≤ maxLen ∧ ∀ x ∈ xs, good x) := by
 refine ⟨hc, fun H enc w sp held fuel cs x hx => ?_⟩
 rcases Go.Deep.open_slice hu hx with ⟨rfl, rfl⟩ | ⟨a, len, cap, m, n, D, Pl, rfl, hb, hl, hm, hmm, rfl, hel⟩
 · exact ⟨[], ⟨none, 0, rfl, Nat.le_refl _, ⟨rfl, Nat.zero_le _, fun h => absurd h (Nat.lt_irrefl 0)⟩⟩, ⟨by simp, fun _ h => by cases h⟩, by simp [Rows.uptoBulk]⟩
 · have hlm : len ≤ m := by rw [hmm]; split <;> omega
   have each : ∀ i, i < len → ∃ y, (∃ c, c.length = d.sz ∧ d.K w y c ∧ ∀ j u, c[j]? = some u → w.cell? (a.add (i * d.sz + j)) = some u) ∧ good y ∧ wt y ≤ Rows.uptoBulk (D i) := by
    intro i hi
    obtain ⟨c, h1, h2⟩ := hel i (by omega)
    obtain ⟨y, k1, k2, k3⟩ := h.2 H enc w sp held n c _ h2
    obtain ⟨_, hcl, hcell⟩ := World.cells?_some h1
    rw [h.1] at hcl hcell
    refine ⟨y, ⟨c, hcl, k1, fun j u hj => ?_⟩, k2, k3⟩
    have hjl : j < d.sz := by
     have := (List.getElem?_eq_some_iff.1 hj).1; omega
    have := hcell j hjl
    rw [hj] at this
    rw [← this]
    rw [add_add]
   have exl : ∀ k, k ≤ len → ∃ ys : List α, ys.length = k ∧ (∀ j p, ys[j]? = some p → (∃ c, c.length = d.sz ∧ d.K w p c ∧ ∀ i u, c[i]? = some u → w.cell? (a.add (j * d.sz + i)) = some u) ∧ good p) ∧ (ys.map wt).sum ≤ Rows.uptoBulkAll ((List.range k).map D) := by
    intro k
    induction k with
    | zero => intro _; exact ⟨[], rfl, fun j p h => by simp at h, by simp⟩
    | succ k ih =>
     intro hk
     obtain ⟨ys, h1, h2, h3⟩ := ih (by omega)
     obtain ⟨y, k1, k2, k3⟩ := each k (by omega)
     refine ⟨ys ++ [y], by simp [h1], fun j p hj => ?_, ?_⟩
     · rcases Nat.lt_or_ge j ys.length with h | h
       · rw [List.getElem?_append_left h] at hj; exact h2 j p hj
       · rw [List.getElem?_append_right h] at hj
         have hj0 : j - ys.length = 0 := by
          have := (List.getElem?_eq_some_iff.1 hj).1; simpa using this
         rw [hj0] at hj
         simp only [List.getElem?_cons_zero, Option.some.injEq] at hj
         subst hj
         have : j = k := by omega
         subst this
         exact ⟨k1, k2⟩
     · have happ : ∀ (l l' : List (DataW H)), Rows.uptoBulkAll (l ++ l') = Rows.uptoBulkAll l + Rows.uptoBulkAll l' := by
        intro l l'
        induction l with
        | nil => simp [Rows.uptoBulkAll]
        | cons x l ih => simp only [List.cons_append, Rows.uptoBulkAll, ih]; omega
       rw [List.map_append, List.sum_append, List.range_succ, List.map_append, happ]
       simp [Rows.uptoBulkAll]; omega
   obtain ⟨ys, h1, h2, h3⟩ := exl len (Nat.le_refl _)
   refine ⟨ys, ⟨some a, cap, by rw [h1], by omega, ⟨rfl, by unfold maxLen at hm; omega, fun _ => ⟨a, rfl, fun j p hj => (h2 j p hj).1⟩⟩⟩, ⟨by omega, fun x hx => ?_⟩, ?_⟩
   · obtain ⟨j, hj, rfl⟩ := List.getElem_of_mem hx
     exact (h2 j _ (List.getElem?_eq_getElem hj)).2
   · simp only [Rows.uptoBulk]; omega
end Go.Proofs.YtoccbcfjbingbaaGreatDoor.Opens
namespace Go.Proofs.YtoccbcfjbingbaaGreatDoor.X30
open Go Go.RowKit Go.ChangeShapes Go.Proofs.YtoccbcfjbingbaaGreatDoorW.PrintWords Go.Proofs.YtoccbcfjbingbaaGreatDoor.Opens
set_option linter.unusedVariables false
theorem opens_array3 {P : Program} {t e : TypeId} (hu : P.underlying t = some (.array 3 e)) (hc : P.cellsOf t = 3) (hce : P.cellsOf e = 1) (he : P.underlying e = some .string) : Opens P t k28 (fun x => x.f0.size + 1 + (x.f1.size + 1 + (x.f2.size + 1)) + 1) (fun x => x.f0.size ≤ maxLen ∧ (x.f1.size ≤ maxLen ∧ x.f2.size ≤ maxLen)) := by
 refine ⟨hc, fun H enc w sp held fuel cs x h => ?_⟩
 obtain ⟨xs, m, _, _, hl, _⟩ := DataW.trod_array hu h
 rw [hc] at hl
 match cs, hl with
 | [c0, c1, c2], _ =>
  obtain ⟨z0, z1, z2, k, rfl, h0, h1, h2⟩ := trod_array3 hu hce h
  obtain ⟨a, e1, e2, ha⟩ := DataW.trod_string he h0
  obtain ⟨b, f1, f2, hb⟩ := DataW.trod_string he h1
  obtain ⟨c, g1, g2, hd⟩ := DataW.trod_string he h2
  subst e2 f2 g2
  simp only [List.cons.injEq, and_true] at e1 f1 g1
  subst e1 f1 g1
  exact ⟨⟨a, b, c⟩, ⟨_, _, rfl, rfl, ⟨_, _, rfl, rfl, rfl⟩⟩, ⟨ha, hb, hd⟩, by simp [Rows.uptoBulk, Rows.uptoBulkAll]⟩
theorem op9 : Opens Tryz.prog 9 Kd.string (fun s : ByteArray => s.size + 1) (fun s : ByteArray => s.size ≤ maxLen) := opens_string Tryz.underlying9 (by kernel_rfl)
theorem op3 : Opens Tryz.prog 3 (Kd.int .i64) (fun _ => 1) (fun n => (Lit.int .i64 n).wf = true) := opens_int Tryz.underlying3 (by kernel_rfl)
theorem op25 : Opens Tryz.prog 25 (Kd.slice 9 Kd.string) (fun xs => (xs.map (fun s : ByteArray => s.size + 1)).sum + 1) (fun xs => xs.length ≤ maxLen ∧ ∀ x ∈ xs, (fun s : ByteArray => s.size ≤ maxLen) x) := opens_slice Tryz.underlying25 (by kernel_rfl) op9
def wt27 (x : S27) : Nat := (fun s : ByteArray => s.size + 1) x.f0 + ((fun xs => (xs.map (fun s : ByteArray => s.size + 1)).sum + 1) x.f1) + 1
def good27 (x : S27) : Prop := (fun s : ByteArray => s.size ≤ maxLen) x.f0 ∧ ((fun xs => xs.length ≤ maxLen ∧ ∀ x ∈ xs, (fun s : ByteArray => s.size ≤ maxLen) x) x.f1)
theorem op27 : Opens Tryz.prog 27 k27 wt27 good27 := by
 have h1 : FieldsOpen Tryz.prog [{ name := "Adjacent", type := 25, offset := 1, embedded := false, tag := "", pkgPath := "", byteOffset := 16 }] 1 _ _ _ := fields_one rfl op25
 have h0 : FieldsOpen Tryz.prog [{ name := "Term", type := 9, offset := 0, embedded := false, tag := "", pkgPath := "", byteOffset := 0 }, { name := "Adjacent", type := 25, offset := 1, embedded := false, tag := "", pkgPath := "", byteOffset := 16 }] 0 _ _ _ := fields_cons rfl op9 rfl h1
 exact opens_struct Tryz.underlying27 (by kernel_rfl) (fields_iso (fun x : S27 => (x.f0, x.f1)) (fun p => ⟨p.1, p.2⟩) (fun _ => rfl) h0)
def wt28 (x : S28) : Nat := (fun s : ByteArray => s.size + 1) x.f0 + ((fun s : ByteArray => s.size + 1) x.f1 + ((fun s : ByteArray => s.size + 1) x.f2)) + 1
def good28 (x : S28) : Prop := (fun s : ByteArray => s.size ≤ maxLen) x.f0 ∧ ((fun s : ByteArray => s.size ≤ maxLen) x.f1 ∧ ((fun s : ByteArray => s.size ≤ maxLen) x.f2))
theorem op28 : Opens Tryz.prog 28 k28 wt28 good28 := opens_array3 (e := 9) Tryz.underlying28 (by kernel_rfl) (by kernel_rfl) Tryz.underlying9
def wt30 (x : S30) : Nat := (fun s : ByteArray => s.size + 1) x.f0 + ((fun _ => 1) x.f1 + (wt27 x.f2 + (wt27 x.f3 + ((fun s : ByteArray => s.size + 1) x.f4 + ((fun s : ByteArray => s.size + 1) x.f5 + ((fun s : ByteArray => s.size + 1) x.f6 + (wt28 x.f7))))))) + 1
def good30 (x : S30) : Prop := (fun s : ByteArray => s.size ≤ maxLen) x.f0 ∧ ((fun n => (Lit.int .i64 n).wf = true) x.f1 ∧ (good27 x.f2 ∧ (good27 x.f3 ∧ ((fun s : ByteArray => s.size ≤ maxLen) x.f4 ∧ ((fun s : ByteArray => s.size ≤ maxLen) x.f5 ∧ ((fun s : ByteArray => s.size ≤ maxLen) x.f6 ∧ (good28 x.f7)))))))
theorem op30 : Opens Tryz.prog 30 k30 wt30 good30 := by
 have h7 : FieldsOpen Tryz.prog [{ name := "By", type := 28, offset := 9, embedded := false, tag := "", pkgPath := "", byteOffset := 152 }] 9 _ _ _ := fields_one rfl op28
 have h6 : FieldsOpen Tryz.prog [{ name := "Count", type := 9, offset := 8, embedded := false, tag := "", pkgPath := "", byteOffset := 136 }, { name := "By", type := 28, offset := 9, embedded := false, tag := "", pkgPath := "", byteOffset := 152 }] 8 _ _ _ := fields_cons rfl op9 rfl h7
 have h5 : FieldsOpen Tryz.prog [{ name := "Amount", type := 9, offset := 7, embedded := false, tag := "", pkgPath := "", byteOffset := 120 }, { name := "Count", type := 9, offset := 8, embedded := false, tag := "", pkgPath := "", byteOffset := 136 }, { name := "By", type := 28, offset := 9, embedded := false, tag := "", pkgPath := "", byteOffset := 152 }] 7 _ _ _ := fields_cons rfl op9 rfl h6
 have h4 : FieldsOpen Tryz.prog [{ name := "Sketch", type := 9, offset := 6, embedded := false, tag := "", pkgPath := "", byteOffset := 104 }, { name := "Amount", type := 9, offset := 7, embedded := false, tag := "", pkgPath := "", byteOffset := 120 }, { name := "Count", type := 9, offset := 8, embedded := false, tag := "", pkgPath := "", byteOffset := 136 }, { name := "By", type := 28, offset := 9, embedded := false, tag := "", pkgPath := "", byteOffset := 152 }] 6 _ _ _ := fields_cons rfl op9 rfl h5
 have h3 : FieldsOpen Tryz.prog [{ name := "And", type := 27, offset := 4, embedded := false, tag := "", pkgPath := "", byteOffset := 64 }, { name := "Sketch", type := 9, offset := 6, embedded := false, tag := "", pkgPath := "", byteOffset := 104 }, { name := "Amount", type := 9, offset := 7, embedded := false, tag := "", pkgPath := "", byteOffset := 120 }, { name := "Count", type := 9, offset := 8, embedded := false, tag := "", pkgPath := "", byteOffset := 136 }, { name := "By", type := 28, offset := 9, embedded := false, tag := "", pkgPath := "", byteOffset := 152 }] 4 _ _ _ := fields_cons rfl op27 rfl h4
 have h2 : FieldsOpen Tryz.prog [{ name := "On", type := 27, offset := 2, embedded := false, tag := "", pkgPath := "", byteOffset := 24 }, { name := "And", type := 27, offset := 4, embedded := false, tag := "", pkgPath := "", byteOffset := 64 }, { name := "Sketch", type := 9, offset := 6, embedded := false, tag := "", pkgPath := "", byteOffset := 104 }, { name := "Amount", type := 9, offset := 7, embedded := false, tag := "", pkgPath := "", byteOffset := 120 }, { name := "Count", type := 9, offset := 8, embedded := false, tag := "", pkgPath := "", byteOffset := 136 }, { name := "By", type := 28, offset := 9, embedded := false, tag := "", pkgPath := "", byteOffset := 152 }] 2 _ _ _ := fields_cons rfl op27 rfl h3
 have h1 : FieldsOpen Tryz.prog [{ name := "Kind", type := 3, offset := 1, embedded := false, tag := "", pkgPath := "", byteOffset := 16 }, { name := "On", type := 27, offset := 2, embedded := false, tag := "", pkgPath := "", byteOffset := 24 }, { name := "And", type := 27, offset := 4, embedded := false, tag := "", pkgPath := "", byteOffset := 64 }, { name := "Sketch", type := 9, offset := 6, embedded := false, tag := "", pkgPath := "", byteOffset := 104 }, { name := "Amount", type := 9, offset := 7, embedded := false, tag := "", pkgPath := "", byteOffset := 120 }, { name := "Count", type := 9, offset := 8, embedded := false, tag := "", pkgPath := "", byteOffset := 136 }, { name := "By", type := 28, offset := 9, embedded := false, tag := "", pkgPath := "", byteOffset := 152 }] 1 _ _ _ := fields_cons rfl op3 rfl h2
 have h0 : FieldsOpen Tryz.prog [{ name := "Id", type := 9, offset := 0, embedded := false, tag := "", pkgPath := "", byteOffset := 0 }, { name := "Kind", type := 3, offset := 1, embedded := false, tag := "", pkgPath := "", byteOffset := 16 }, { name := "On", type := 27, offset := 2, embedded := false, tag := "", pkgPath := "", byteOffset := 24 }, { name := "And", type := 27, offset := 4, embedded := false, tag := "", pkgPath := "", byteOffset := 64 }, { name := "Sketch", type := 9, offset := 6, embedded := false, tag := "", pkgPath := "", byteOffset := 104 }, { name := "Amount", type := 9, offset := 7, embedded := false, tag := "", pkgPath := "", byteOffset := 120 }, { name := "Count", type := 9, offset := 8, embedded := false, tag := "", pkgPath := "", byteOffset := 136 }, { name := "By", type := 28, offset := 9, embedded := false, tag := "", pkgPath := "", byteOffset := 152 }] 0 _ _ _ := fields_cons rfl op9 rfl h1
 exact opens_struct Tryz.underlying30 (by kernel_rfl) (fields_iso (fun x : S30 => (x.f0, x.f1, x.f2, x.f3, x.f4, x.f5, x.f6, x.f7)) (fun p => ⟨p.1, p.2.1, p.2.2.1, p.2.2.2.1, p.2.2.2.2.1, p.2.2.2.2.2.1, p.2.2.2.2.2.2.1, p.2.2.2.2.2.2.2⟩) (fun _ => rfl) h0)
def wt45 (x : S45) : Nat := (fun s : ByteArray => s.size + 1) x.f0 + ((fun s : ByteArray => s.size + 1) x.f1) + 1
def good45 (x : S45) : Prop := (fun s : ByteArray => s.size ≤ maxLen) x.f0 ∧ ((fun s : ByteArray => s.size ≤ maxLen) x.f1)
end Go.Proofs.YtoccbcfjbingbaaGreatDoor.X30
