/- voussoirref28.Parse: the pieces between the bars by a loop, checked. -/
import Derived.Test.YtkceipkedmfeiaaGreatDoorX30x7
import Derived.Test.YtkceipkedmfeiaaGreatDoorFeatA
import Derived.Test.YtkceipkedmfeiaaGreatDoorFeatB0
namespace Go.Proofs.YtkceipkedmfeiaaGreatDoor.X30
open Go Go.RowKit Go.Shelf Go.Proofs.YtkceipkedmfeiaaGreatDoorW.PrintWords Go.Proofs.YtkceipkedmfeiaaGreatDoorW.PrintLast Go.Proofs.YtkceipkedmfeiaaGreatDoorW.PrintMore

set_option maxHeartbeats 3200000 in
set_option maxRecDepth 100000 in
theorem ref28_Parse_any (k : Nat) (a0 r1 : ByteArray) (r2 : List ByteArray) (r3 : Bool) (w : World)
    (h : (Option.bind (refSplit a0) fun l => match l with | [] => none | t :: rest => (voussoirref28_Check.f k t rest).bind fun e => if e = 0 then some (t, rest, true) else some (⟨#[]⟩, [], false)) = some (r1, r2, r3)) :
    Calls Tryz.prog 19 #[.string a0] w fun e w' => ∃ v1_ : Value, e = .returned (.tuple #[.agg #[.string r1, v1_], .bool r3]) ∧ Kd.Q Kd.string 9 w' w.heap.size (fun _ => True) v1_ r2 ∧ Below w.heap.size w w' := by
  obtain ⟨l, hl, h⟩ := Option.bind_eq_some_iff.1 h
  obtain ⟨hsz, hl⟩ := refSplit_some hl
  match l, hl, h with
  | t :: rest, hl, h =>
  simp only at h
  obtain ⟨e, he, h⟩ := Option.bind_eq_some_iff.1 h
  have HE := Lib.hid he
  have HH := Lib.hid h
  have hl1 : (t :: rest).length ≤ a0.size + 1 := by rw [← hl]; exact pieces_len _ _ _ _
  obtain ⟨L, hL⟩ : ∃ L, L = t :: rest := ⟨_, rfl⟩
  rw [← hL] at hl hl1
  have HL := Lib.hid hL
  have HP := Lib.hid hl
  clear he hl h hL
  go_enter Tryz.func19, Tryz.ntmps19
  go_wp2_with fail
  go_loopw [4, 5, 6] (fun v f i wr => ∃ (n m : Nat) (xs : List ByteArray), f = .int .i64 m ∧ i = .int .i64 n ∧ m ≤ n ∧ n ≤ a0.size + 1 ∧ xs.length ≤ n ∧ Aside0 (xs ++ pieces a0 (a0.size + 1 - n) m n = L) ∧ Aside0 (Kd.R Kd.string 9 wr w.heap.size (fun _ => True) v xs) ∧ Aside0 (wr.heap[w.heap.size]? = some (.cells #[.string ⟨#[]⟩, .slice none 0 0] 26 (0, 0))) ∧ Aside0 (Below w.heap.size w wr))
    (fun _ _ i _ => a0.size + 2 - (intOf i).toNat)
  case atStart =>
    refine ⟨0, 0, [], rfl, rfl, Nat.le_refl _, Nat.zero_le _, Nat.le_refl _, ⟨HP.out⟩, ⟨?_⟩, ⟨blk_alloc (blk_new _ _) _⟩, ⟨below_alloc (below_alloc (Below.refl _ _) _) _⟩⟩
    have := own_strs (w.alloc (.cells #[.string ⟨#[]⟩, .slice none 0 0] 26)) w.heap.size [] (by simp) (by simp)
    have e0 : (w.alloc (.cells #[.string ⟨#[]⟩, .slice none 0 0] 26)).heap.size = w.heap.size + 1 := by simp
    rw [e0] at this
    exact Kd.R_mono this (fun _ _ => trivial)
  case round =>
    obtain ⟨n, m, xs, rfl, rfl, hmn, hn, hxl, hP, hR, hbk, hbel⟩ := hrel
    by_cases hlt : n ≤ a0.size
    · by_cases hend : n = a0.size
      · have hP1 : Aside0 ((xs ++ [a0.extract m n]) ++ pieces a0 (a0.size + 1 - (n + 1)) (n + 1) (n + 1) = L) := ⟨by
          rw [← hP.out, show a0.size + 1 - n = (a0.size + 1 - (n + 1)) + 1 by omega, pieces, if_pos (.inl hend), List.append_assoc]; rfl⟩
        have he2 : ((n : Int) == (a0.size : Int)) = true := by rw [hend]; exact beq_self_eq_true _
        clear hP hend
        go_wp2_with (first | ((with_reducible refine gate_dst (N := 31) rfl ?_); refine Kd.R_append Kd.string (w0 := w) (W := wr) w.heap.size rfl (.tmp 25) (.tmp 30) 24 9 (.string ⟨#[]⟩) 16 rfl Tryz.underlying24 info9 rfl (by decide) (by decide) _ xs (a0.extract m n) [.string (a0.extract m n)] (fun _ => True) (fun _ => False) rfl rfl rfl (fun _ h_ => h_.elim) (fun _ _ => trivial) hR.out hbel.out (below_size hbel.out) (by omega) ?_; intro v1 w2 hR1 hb1 hg1 hat1; replace hbk := Aside0.mk (blk_grown hbk.out hg1 (Kd.R_ne hR.out hbk.out (by decide))); replace hbel := Aside0.mk hb1; replace hR := Aside0.mk hR1; clear hR1 hb1 hg1 hat1))
        go_roundw
        case rel => exact ⟨n + 1, n + 1, xs ++ [a0.extract m n], by go_num, by go_num, Nat.le_refl _, by omega, by simp; omega, hP1, hR, hbk, hbel⟩
        case measure => simp [intOf]; omega
      · have hn1 : n < a0.size := by omega
        have he2 : ((n : Int) == (a0.size : Int)) = false := by rw [beq_eq_false_iff_ne]; omega
        have hbt : ∀ h : n < a0.size, ((a0[n]'h).toNat : Int) = bt a0 (n : Int) := by simpa using bt_at a0 (n : Int)
        by_cases hc : bt a0 n = 124
        · have hc1 : (bt a0 n == 124) = true := by rw [hc]; rfl
          have hP1 : Aside0 ((xs ++ [a0.extract m n]) ++ pieces a0 (a0.size + 1 - (n + 1)) (n + 1) (n + 1) = L) := ⟨by
            rw [← hP.out, show a0.size + 1 - n = (a0.size + 1 - (n + 1)) + 1 by omega, pieces, if_pos (.inr hc), List.append_assoc]; rfl⟩
          clear hP hc
          go_wp2_with (first | ((with_reducible refine gate_dst (N := 31) rfl ?_); refine Kd.R_append Kd.string (w0 := w) (W := wr) w.heap.size rfl (.tmp 25) (.tmp 30) 24 9 (.string ⟨#[]⟩) 16 rfl Tryz.underlying24 info9 rfl (by decide) (by decide) _ xs (a0.extract m n) [.string (a0.extract m n)] (fun _ => True) (fun _ => False) rfl rfl rfl (fun _ h_ => h_.elim) (fun _ _ => trivial) hR.out hbel.out (below_size hbel.out) (by omega) ?_; intro v1 w2 hR1 hb1 hg1 hat1; replace hbk := Aside0.mk (blk_grown hbk.out hg1 (Kd.R_ne hR.out hbk.out (by decide))); replace hbel := Aside0.mk hb1; replace hR := Aside0.mk hR1; clear hR1 hb1 hg1 hat1))
          go_roundw
          case rel => exact ⟨n + 1, n + 1, xs ++ [a0.extract m n], by go_num, by go_num, Nat.le_refl _, by omega, by simp; omega, hP1, hR, hbk, hbel⟩
          case measure => simp [intOf]; omega
        · have hc1 : (bt a0 n == 124) = false := beq_eq_false_iff_ne.2 hc
          have hP1 : Aside0 (xs ++ pieces a0 (a0.size + 1 - (n + 1)) m (n + 1) = L) := ⟨by
            rw [← hP.out, show a0.size + 1 - n = (a0.size + 1 - (n + 1)) + 1 by omega, pieces, if_neg (by rintro (h | h); exact hend h; exact hc h)]⟩
          clear hP hc
          go_wp2_with fail
          go_roundw
          case rel => exact ⟨n + 1, m, xs, by go_num, by go_num, by omega, by omega, by omega, hP1, hR, hbk, hbel⟩
          case measure => simp [intOf]; omega
    · have hxL : xs = t :: rest := by
        have := hP.out
        rw [show a0.size + 1 - n = 0 by omega, pieces, List.append_nil] at this
        rw [this]; exact HL.out
      subst hxL
      obtain ⟨g, c, rfl, hc, hbg, hcell⟩ := q_cell0 hR.out
      obtain ⟨i9, hi9, hi9a, hi9b, hi9c⟩ := info_parts info9
      obtain ⟨Aq, hq⟩ : ∃ q : Option Addr, q = (if c = 1 then some ⟨g, 0, none⟩ else (some (⟨g, 0, none⟩ : Addr)).map (·.add (1 * 1))) := ⟨_, rfl⟩
      have hcut : ∀ W : World, (Instr.slice 24 (.slice (some ⟨g, 0, none⟩) (rest.length + 1) c) (some (.int .i64 1)) none none).run Tryz.prog W = .ok (.slice Aq rest.length (c - 1)) W := by
        intro W
        rw [hq]
        exact cut_from (P := Tryz.prog) 24 9 .i64 Tryz.underlying24 hi9 1 hi9b (some ⟨g, 0, none⟩) (rest.length + 1) c 1 (by omega) (by omega) W
      have HQ : Kd.Q Kd.string 9 wr w.heap.size (fun _ => True) (.slice Aq rest.length (c - 1)) rest := by
        have := Kd.Q_drop (k := 1) (Kd.Q_of_R hR.out) (by simp)
        rw [hq]
        exact this
      have HC : Kd.C Kd.string wr Aq rest.length rest := (Kd.Q_reads' HQ).2.2
      clear hq hP hmn hn hxl HL HP hl1
      have hg := World.block_lt_of_cell? _ _ hcell
      have hcell2 : ∀ o, (wr.alloc o).cell? ⟨g, 0, none⟩ = some (.string t) := fun o => (((Below.refl _ wr).alloc (Nat.le_refl _) o).cell (p := ⟨g, 0, none⟩) hg).trans hcell
      go_wp2_with fail
      go_region
      go_wp2_with fail
      have hB1 : Below wr.heap.size wr ((wr.alloc (.cells #[.string t, .slice Aq rest.length (c - 1)] 26)).drew) := pw_below_drewN (below_alloc (Below.refl _ _) _) 1
      have hx := blk_drew (blk_new wr (.cells #[.string t, .slice Aq rest.length (c - 1)] 26))
      have hy := blk_drew (blk_alloc hbk.out (.cells #[.string t, .slice Aq rest.length (c - 1)] 26))
      refine (voussoirref28_Check.calls k t Aq (c - 1) rest e _ (Kd.C_below HC hB1) (by omega) HE.out).mono ?_
      rintro e2 w2 ⟨rfl, hb2⟩
      replace hx := blk_below hx hb2
      replace hy := blk_below hy hb2
      have hQ2 := Kd.Q_below HQ (below_step hB1 hb2)
      have hbw2 := below_step (below_step hbel.out hB1) hb2
      clear HC hcell hcell2 hcut hR hB1 hbel hb2 hi9 hi9a hi9b hi9c hbk
      have x0 := (blk_cell hx 0).trans rfl
      have x1 := (blk_cell hx 1).trans rfl
      have y0 := (blk_cell hy 0).trans rfl
      have y1 := (blk_cell hy 1).trans rfl
      have fy0 := blk_frozen hy 0
      have fy1 := blk_frozen hy 1
      by_cases hz : e = 0
      · subst hz
        have hh := HH.out
        simp only [if_true, Option.some.injEq, Prod.mk.injEq] at hh
        obtain ⟨rfl, rfl, rfl⟩ := hh
        clear HH HE
        go_wp2_with fail
        refine bodyPost_ret (results_ct rfl _ _ w.heap.size 26 #[.string t, .slice Aq rest.length (c - 1)] (0, 0) _ rfl (blk_put (blk_put hy 0 _ rfl) 1 _ rfl) Tryz.underlying26 rfl (by kernel_rfl)) rfl ?_
        exact ⟨_, rfl, Kd.Q_mono (Kd.Q_far (p := ⟨w.heap.size, 1, none⟩) (Kd.Q_far (p := ⟨w.heap.size, 0, none⟩) (Kd.Q_types hQ2 hy (by decide)) (fun k hk => hk.2) _) (fun k hk => hk.2) _) (fun _ _ => trivial), below_set (below_set hbw2 (Nat.le_refl _)) (Nat.le_refl _)⟩
      · have hn : (e != 0) = true := bne_iff_ne.2 hz
        have hh := HH.out
        rw [if_neg hz] at hh
        simp only [Option.some.injEq, Prod.mk.injEq] at hh
        obtain ⟨rfl, rfl, rfl⟩ := hh
        clear HH HE hz
        go_wp2_with fail
        refine bodyPost_ret (results_ct rfl _ _ w.heap.size 26 #[.string ⟨#[]⟩, .slice none 0 0] (0, 0) _ rfl (blk_put (blk_put hy 0 _ rfl) 1 _ rfl) Tryz.underlying26 rfl (by kernel_rfl)) rfl ?_
        exact ⟨_, rfl, Kd.Q_nil _ _ _ _ _, below_set (below_set hbw2 (Nat.le_refl _)) (Nat.le_refl _)⟩

end Go.Proofs.YtkceipkedmfeiaaGreatDoor.X30
