/- An argument that reads as data, no part of it larger than the row's reach, is a value of the printer's own kinds, and each slice and string in it is bounded. -/
import Derived.Test.YtkceipkedmfeiaaGreatDoorWWords
import Derived.Test.YtkceipkedmfeiaaGreatDoorRows
import Derived.Deep.Slices
import Derived.ChangeArms
import Derived.DataReads
import Derived.SizedLaws
namespace Go.Proofs.YtkceipkedmfeiaaGreatDoor.OpensW
open Go Go.RowKit Go.Proofs.YtkceipkedmfeiaaGreatDoorW.PrintWords

def Opens {α : Type} (P : Program) (t : TypeId) (d : Kd α) (good : α → Prop) : Prop :=
  P.cellsOf t = d.sz ∧ ∀ (H : Type) (enc : TypeId × Value → H) (w : World) (sp : Nat → Bool) (held : Bool) (fuel : Nat) (cs : List Value) (x : DataW H × List MemPlace),
    DataW.trod enc P w 0 sp held fuel t cs = some x → (∀ n ∈ x.1.weights P t, n ≤ reachBytes) → ∃ y, d.K w y cs ∧ good y
def FieldsOpen {α : Type} (P : Program) (fs : List Field) (off : Nat) (d : Kd α) (good : α → Prop) : Prop :=
  ∀ (H : Type) (enc : TypeId × Value → H) (w : World) (sp : Nat → Bool) (held : Bool) (n : Nat) (cs : List Value) (xs : List (DataW H × List MemPlace)), cs.length = off + d.sz → xs.length = fs.length →
    (∀ (i : Nat) (f : Field), fs[i]? = some f → DataW.trod enc P w 0 sp held n f.type ((cs.drop f.offset).take (P.cellsOf f.type)) = xs[i]?) →
    (∀ n ∈ DataW.weightsEach P (fs.map (·.type)) (xs.map (·.1)), n ≤ reachBytes) → ∃ y, d.K w y (cs.drop off) ∧ good y
theorem opens_int {P : Program} {t : TypeId} {k : IntKind} (hu : P.underlying t = some (.int k)) (hc : P.cellsOf t = 1) : Opens P t (Kd.int k) (fun n => (Lit.int k n).wf = true) := by
  refine ⟨hc, fun H enc w sp held fuel cs x h _ => ?_⟩
  obtain ⟨n, e1, e2, hw⟩ := DataW.trod_int hu h
  subst e1; subst e2
  exact ⟨n, rfl, hw⟩
theorem opens_bool {P : Program} {t : TypeId} (hu : P.underlying t = some .bool) (hc : P.cellsOf t = 1) : Opens P t Kd.bool (fun _ => True) := by
  refine ⟨hc, fun H enc w sp held fuel cs x h _ => ?_⟩
  obtain ⟨b, e1, e2⟩ := DataW.trod_bool hu h
  subst e1; subst e2
  exact ⟨b, rfl, trivial⟩
theorem opens_string {P : Program} {t : TypeId} (hu : P.underlying t = some .string) (hc : P.cellsOf t = 1) : Opens P t Kd.string (fun s => s.size ≤ reachBytes) := by
  refine ⟨hc, fun H enc w sp held fuel cs x h hw => ?_⟩
  obtain ⟨s, e1, e2, hs⟩ := DataW.trod_string hu h
  subst e1; subst e2
  exact ⟨s, rfl, by have := hw _ (by simp [DataW.weights]; rfl); simpa using this⟩
theorem fields_one {α : Type} {P : Program} {f : Field} {off : Nat} {d : Kd α} {good : α → Prop} (ho : f.offset = off) (h : Opens P f.type d good) : FieldsOpen P [f] off d good := by
  intro H enc w sp held n cs xs hl hx hf hw
  have h0 := hf 0 f rfl
  match xs, hx with
  | [x], _ =>
    rw [ho, h.1, List.take_of_length_le (by simp; omega)] at h0
    exact h.2 H enc w sp held n _ x (by simpa using h0) (fun m hm => hw m (by simpa [DataW.weightsEach] using hm))
theorem fields_cons {α β : Type} {P : Program} {f : Field} {fs : List Field} {off off' : Nat} {a : Kd α} {b : Kd β} {ga : α → Prop} {gb : β → Prop} (ho : f.offset = off) (ha : Opens P f.type a ga)
    (ho' : off' = off + a.sz) (hb : FieldsOpen P fs off' b gb) : FieldsOpen P (f :: fs) off (Kd.pair a b) (fun p => ga p.1 ∧ gb p.2) := by
  subst ho'
  intro H enc w sp held n cs xs hl hx hf hw
  have hl : cs.length = off + (a.sz + b.sz) := hl
  have h0 := hf 0 f rfl
  match xs, hx with
  | x :: xs, hx =>
    rw [ho, ha.1] at h0
    obtain ⟨y, h1, h2⟩ := ha.2 H enc w sp held n _ x (by simpa using h0) (fun m hm => hw m (by simp [DataW.weightsEach, hm]))
    obtain ⟨z, k1, k2⟩ := hb H enc w sp held n cs xs (by omega) (by simpa using hx) (fun i g hg => by
      have := hf (i + 1) g (by simpa using hg)
      simpa using this) (fun m hm => hw m (by simp only [List.map_cons, DataW.weightsEach, List.mem_append]; exact .inr hm))
    refine ⟨(y, z), ⟨(cs.drop off).take a.sz, cs.drop (off + a.sz), ?_, h1, k1⟩, ⟨h2, k2⟩⟩
    rw [← List.drop_drop, List.take_append_drop]
theorem fields_iso {α β : Type} {P : Program} {fs : List Field} {off : Nat} {d : Kd α} {good : α → Prop} (f : β → α) (g : α → β) (hfg : ∀ x, f (g x) = x) (h : FieldsOpen P fs off d good) :
    FieldsOpen P fs off (Kd.iso d f) (fun x => good (f x)) := by
  intro H enc w sp held n cs xs hl hx hf hw
  obtain ⟨y, h1, h2⟩ := h H enc w sp held n cs xs hl hx hf hw
  exact ⟨g y, by show d.K w (f (g y)) _; rw [hfg]; exact h1, by show good (f (g y)); rw [hfg]; exact h2⟩
theorem opens_struct {α : Type} {P : Program} {t : TypeId} {fs : Array Field} {d : Kd α} {good : α → Prop} (hu : P.underlying t = some (.struct fs)) (hc : P.cellsOf t = d.sz) (h : FieldsOpen P fs.toList 0 d good) : Opens P t d good := by
  refine ⟨hc, fun H enc w sp held fuel cs x hx hw => ?_⟩
  obtain ⟨xs, n, _, rfl, hl, hlen, hf⟩ := DataW.trod_struct hu hx
  obtain ⟨y, h1, h2⟩ := h H enc w sp held n cs xs (by omega) (by simpa using hlen) (fun i f hi => hf i f (by simpa using hi)) (fun m hm => hw m (by simp only [DataW.weights, hu]; exact hm))
  exact ⟨y, by simpa using h1, h2⟩
theorem mem_all {H : Type} {P : Program} {e : TypeId} : ∀ {ds : List (DataW H)} {d : DataW H}, d ∈ ds → ∀ m ∈ d.weights P e, m ∈ DataW.weightsAll P e ds
  | x :: r, d, h, m, hm => by
    rw [DataW.weightsAll, List.mem_append]
    rcases List.mem_cons.1 h with rfl | h
    · exact .inl hm
    · exact .inr (mem_all h m hm)
theorem opens_slice {α : Type} {P : Program} {t e nb : Nat} {d : Kd α} {good : α → Prop} (hu : P.underlying t = some (.slice e)) (hc : P.cellsOf t = 1) (hnb : P.bytesOf e = nb) (h : Opens P e d good) :
    Opens P t (Kd.slice e d) (fun xs => xs.length * nb ≤ reachBytes ∧ ∀ x ∈ xs, good x) := by
  refine ⟨hc, fun H enc w sp held fuel cs x hx hw => ?_⟩
  rcases Go.Deep.open_slice hu hx with ⟨rfl, rfl⟩ | ⟨a, len, cap, m, n, D, Pl, rfl, hb, hl, hm, hmm, rfl, hel⟩
  · exact ⟨[], ⟨none, 0, rfl, Nat.le_refl _, ⟨rfl, Nat.zero_le _, fun h => absurd h (Nat.lt_irrefl 0)⟩⟩, ⟨by simp, fun _ h => by cases h⟩⟩
  · have hlm : len ≤ m := by rw [hmm]; split <;> omega
    simp only [DataW.weights, hu, List.mem_cons, List.mem_append] at hw
    have hsz := hw _ (.inl rfl)
    rw [hnb, List.length_map, List.length_range] at hsz
    have each : ∀ i, i < len → ∃ y, (∃ c, c.length = d.sz ∧ d.K w y c ∧ ∀ j u, c[j]? = some u → w.cell? (a.add (i * d.sz + j)) = some u) ∧ good y := by
      intro i hi
      obtain ⟨c, h1, h2⟩ := hel i (by omega)
      obtain ⟨y, k1, k2⟩ := h.2 H enc w sp held n c _ h2 (fun q hq => hw q (.inr (.inl (mem_all (List.mem_map.2 ⟨i, List.mem_range.2 hi, rfl⟩) q hq))))
      obtain ⟨_, hcl, hcell⟩ := World.cells?_some h1
      rw [h.1] at hcl hcell
      refine ⟨y, ⟨c, hcl, k1, fun j u hj => ?_⟩, k2⟩
      have hjl : j < d.sz := by
        have := (List.getElem?_eq_some_iff.1 hj).1; omega
      have := hcell j hjl
      rw [hj] at this
      rw [← this]
      rw [add_add]
    have exl : ∀ k, k ≤ len → ∃ ys : List α, ys.length = k ∧ (∀ j p, ys[j]? = some p → (∃ c, c.length = d.sz ∧ d.K w p c ∧ ∀ i u, c[i]? = some u → w.cell? (a.add (j * d.sz + i)) = some u) ∧ good p) := by
      intro k
      induction k with
      | zero => intro _; exact ⟨[], rfl, fun j p h => by simp at h⟩
      | succ k ih =>
        intro hk
        obtain ⟨ys, h1, h2⟩ := ih (by omega)
        obtain ⟨y, k1, k2⟩ := each k (by omega)
        refine ⟨ys ++ [y], by simp [h1], fun j p hj => ?_⟩
        rcases Nat.lt_or_ge j ys.length with h | h
        · rw [List.getElem?_append_left h] at hj; exact h2 j p hj
        · rw [List.getElem?_append_right h] at hj
          have hj0 : j - ys.length = 0 := by
            have := (List.getElem?_eq_some_iff.1 hj).1; simpa using this
          rw [hj0] at hj
          simp only [List.getElem?_cons_zero, Option.some.injEq] at hj
          subst hj
          have : j = k := by omega
          subst this
          exact ⟨k1, k2⟩
    obtain ⟨ys, h1, h2⟩ := exl len (Nat.le_refl _)
    refine ⟨ys, ⟨some a, cap, by rw [h1], by omega, ⟨rfl, by unfold maxLen at hm; omega, fun _ => ⟨a, rfl, fun j p hj => (h2 j p hj).1⟩⟩⟩, ⟨?_, fun x hx => ?_⟩⟩
    · rw [h1]
      exact Nat.le_trans (Nat.mul_le_mul_right _ (Nat.le_add_right _ _)) hsz
    · obtain ⟨j, hj, rfl⟩ := List.getElem_of_mem hx
      exact (h2 j _ (List.getElem?_eq_getElem hj)).2
end Go.Proofs.YtkceipkedmfeiaaGreatDoor.OpensW
