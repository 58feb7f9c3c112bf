/- resolve.Parse: the pieces between the bars, checked. -/
import Derived.Test.YtkceipkedmfeiaaGreatDoorX30x2
import Derived.WalkKit
import Derived.WalkSpells
import Derived.Lib.Hide
import Derived.Deep.RegionWith
import Derived.RegionTactic
import Derived.Outline
namespace Go.Proofs.YtkceipkedmfeiaaGreatDoor.X30
open Go Go.RowKit Go.Shelf Go.Proofs.YtkceipkedmfeiaaGreatDoorW.PrintWords Go.Proofs.YtkceipkedmfeiaaGreatDoorW.PrintLast Go.Proofs.YtkceipkedmfeiaaGreatDoorW.PrintMore

theorem q_cell0 {w : World} {base : Nat} {ok : Nat → Prop} {v : Value} {t : ByteArray} {rest : List ByteArray} (h : Kd.R Kd.string 9 w base ok v (t :: rest)) :
    ∃ g c, v = .slice (some ⟨g, 0, none⟩) (rest.length + 1) c ∧ rest.length + 1 ≤ c ∧ base ≤ g ∧ w.cell? ⟨g, 0, none⟩ = some (.string t) := by
  obtain ⟨A, c, rfl, hc, hC⟩ := Kd.R_reads h
  obtain ⟨h0, inner, ho, hr⟩ := h
  rcases ho.2 with ⟨_, e⟩ | ⟨g, cap, cur, e, hb, hh, h1, h2, h3, h4⟩
  · simp at e
  · simp only [Value.slice.injEq] at e
    obtain ⟨rfl, -, rfl⟩ := e
    obtain ⟨b, o, e, hb', hcell⟩ := C_string_cells hC (by simp)
    simp only [Option.some.injEq, Addr.mk.injEq] at e
    obtain ⟨rfl, rfl, -⟩ := e
    exact ⟨g, c, rfl, h1, hb, hcell 0 t rfl⟩

set_option maxHeartbeats 1600000 in
theorem resolve_Parse_any (k : Nat) (a0 r1 : ByteArray) (r2 : List ByteArray) (r3 : Bool) (w : World)
    (h : (Option.bind (strings_Split.f a0 ⟨#[124]⟩) fun l => match l with | [] => none | t :: rest => (resolve_Check.f k t rest).bind fun e => if e = 0 then some (t, rest, true) else some (⟨#[]⟩, [], false)) = some (r1, r2, r3)) (hG : Env w) :
    Calls Tryz.prog 18 #[.string a0] w fun e w' => ∃ v1_ : Value, e = .returned (.tuple #[.agg #[.string r1, v1_], .bool r3]) ∧ Kd.Q Kd.string 9 w' w.heap.size (fun _ => True) v1_ r2 ∧ Below w.heap.size w w' := by
  obtain ⟨l, hl, h⟩ := Option.bind_eq_some_iff.1 h
  match l, hl, h with
  | t :: rest, hl, h =>
  simp only at h
  obtain ⟨e, he, h⟩ := Option.bind_eq_some_iff.1 h
  have HE := Lib.hid he
  have HL := Lib.hid hl
  have HH := Lib.hid h
  clear he hl h
  go_enter Tryz.func18, Tryz.ntmps18
  go_wp2_with fail
  have hG1 : Env (w.alloc (.cells #[.string ⟨#[]⟩, .slice none 0 0] 26)) := hG.below (below_alloc (Below.refl _ _) _)
  refine (strings_Split.calls a0 ⟨#[124]⟩ (t :: rest) _ HL.out hG1).mono ?_
  rintro e1 w1 ⟨v, rfl, hR, hb⟩
  obtain ⟨g, c, rfl, hc, hbg, hcell⟩ := q_cell0 hR
  have HR := Lib.hid hR
  have HB := Lib.hid hb
  have hfc := hb.cell (p := ⟨w.heap.size, 0, none⟩) (by simp)
  clear hR hb
  obtain ⟨i9, hi9, hi9a, hi9b, hi9c⟩ := info_parts info9
  obtain ⟨Aq, hq⟩ : ∃ q : Option Addr, q = (if c = 1 then some ⟨g, 0, none⟩ else (some (⟨g, 0, none⟩ : Addr)).map (·.add (1 * 1))) := ⟨_, rfl⟩
  have hcut : ∀ W : World, (Instr.slice 24 (.slice (some ⟨g, 0, none⟩) (rest.length + 1) c) (some (.int .i64 1)) none none).run Tryz.prog W = .ok (.slice Aq rest.length (c - 1)) W := by
    intro W
    rw [hq]
    exact cut_from (P := Tryz.prog) 24 9 .i64 Tryz.underlying24 hi9 1 hi9b (some ⟨g, 0, none⟩) (rest.length + 1) c 1 (by omega) (by omega) W
  have HQ : Kd.Q Kd.string 9 w1 w.heap.size (fun _ => True) (.slice Aq rest.length (c - 1)) rest := by
    have := Kd.Q_drop (k := 1) (Kd.Q_of_R (Kd.R_lower (base' := w.heap.size) HR.out (by simp))) (by simp)
    rw [hq]
    exact this
  have HC : Kd.C Kd.string w1 Aq rest.length rest := (Kd.Q_reads' HQ).2.2
  clear hq
  have hg := World.block_lt_of_cell? _ _ hcell
  have hcell2 : ∀ o, (w1.alloc o).cell? ⟨g, 0, none⟩ = some (.string t) := fun o => (((Below.refl _ w1).alloc (Nat.le_refl _) o).cell (p := ⟨g, 0, none⟩) hg).trans hcell
  go_wp2_with fail
  go_region
  go_wp2_with fail
  have hB1 : Below w1.heap.size w1 ((w1.alloc (.cells #[.string t, .slice Aq rest.length (c - 1)] 26)).drew) := pw_below_drewN (below_alloc (Below.refl _ _) _) 1
  have hbw : Below w.heap.size w w1 := below_then (below_alloc (Below.refl _ _) _) (by simp) HB.out
  have hG2 : Env ((w1.alloc (.cells #[.string t, .slice Aq rest.length (c - 1)] 26)).drew) := hG.below (below_step hbw hB1)
  have hx := blk_drew (blk_new w1 (.cells #[.string t, .slice Aq rest.length (c - 1)] 26))
  have hy := blk_drew (blk_alloc (blk_below (blk_new w (.cells #[.string ⟨#[]⟩, .slice none 0 0] 26)) HB.out) (.cells #[.string t, .slice Aq rest.length (c - 1)] 26))
  refine (resolve_Check.calls k t Aq (c - 1) rest e _ (Kd.C_below HC hB1) (by omega) HE.out hG2).mono ?_
  rintro e2 w2 ⟨rfl, hb2⟩
  replace hx := blk_below hx hb2
  replace hy := blk_below hy hb2
  have hQ2 := Kd.Q_below HQ (below_step hB1 hb2)
  have hbw2 := below_step (below_step hbw hB1) hb2
  clear HC hcell hcell2 hcut HR hB1 hbw hb2 hG1 hG2 hG hfc hi9 hi9a hi9b hi9c
  have x0 := (blk_cell hx 0).trans rfl
  have x1 := (blk_cell hx 1).trans rfl
  have y0 := (blk_cell hy 0).trans rfl
  have y1 := (blk_cell hy 1).trans rfl
  have fy0 := blk_frozen hy 0
  have fy1 := blk_frozen hy 1
  by_cases hz : e = 0
  · subst hz
    have hh := HH.out
    simp only [if_true, Option.some.injEq, Prod.mk.injEq] at hh
    obtain ⟨rfl, rfl, rfl⟩ := hh
    clear HH HE
    go_wp2_with fail
    refine bodyPost_ret (results_ct rfl _ _ w.heap.size 26 #[.string t, .slice Aq rest.length (c - 1)] (0, 0) _ rfl (blk_put (blk_put hy 0 _ rfl) 1 _ rfl) Tryz.underlying26 rfl (by kernel_rfl)) rfl ?_
    exact ⟨_, rfl, Kd.Q_mono (Kd.Q_far (p := ⟨w.heap.size, 1, none⟩) (Kd.Q_far (p := ⟨w.heap.size, 0, none⟩) (Kd.Q_types hQ2 hy (by decide)) (fun k hk => hk.2) _) (fun k hk => hk.2) _) (fun _ _ => trivial), below_set (below_set hbw2 (Nat.le_refl _)) (Nat.le_refl _)⟩
  · have hn : (e != 0) = true := bne_iff_ne.2 hz
    have hh := HH.out
    rw [if_neg hz] at hh
    simp only [Option.some.injEq, Prod.mk.injEq] at hh
    obtain ⟨rfl, rfl, rfl⟩ := hh
    clear HH HE hz
    go_wp2_with fail
    refine bodyPost_ret (results_ct rfl _ _ w.heap.size 26 #[.string ⟨#[]⟩, .slice none 0 0] (0, 0) _ rfl (blk_put (blk_put hy 0 _ rfl) 1 _ rfl) Tryz.underlying26 rfl (by kernel_rfl)) rfl ?_
    exact ⟨_, rfl, Kd.Q_nil _ _ _ _ _, below_set (below_set hbw2 (Nat.le_refl _)) (Nat.le_refl _)⟩

end Go.Proofs.YtkceipkedmfeiaaGreatDoor.X30
