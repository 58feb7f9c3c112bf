/- feature.Fields, walked. -/
import Derived.Test.YtoccbcfjbingbaaGreatDoorFeatC3
namespace Go.Proofs.YtoccbcfjbingbaaGreatDoor.X30
open Go Go.RowKit Go.Shelf Go.Proofs.YtoccbcfjbingbaaGreatDoorW.PrintWords Go.Proofs.YtoccbcfjbingbaaGreatDoorW.PrintLast Go.Proofs.YtoccbcfjbingbaaGreatDoorW.PrintMore

theorem mapM_spec {α β : Type} {g : α → Option β} : ∀ {l : List α} {L : List β}, l.mapM g = some L → L.length = l.length ∧ ∀ (j : Nat) a, l[j]? = some a → ∃ y, g a = some y ∧ L[j]? = some y
  | [], L, h => by
    simp at h
    subst h
    exact ⟨rfl, fun j a h => by simp at h⟩
  | a :: l, L, h => by
    rw [List.mapM_cons] at h
    simp only [Option.pure_def, Option.bind_eq_bind, Option.bind_eq_some_iff, Option.some.injEq] at h
    obtain ⟨y, hy, L', hL, rfl⟩ := h
    obtain ⟨h1, h2⟩ := mapM_spec hL
    refine ⟨by simp [h1], fun j b hj => ?_⟩
    cases j with
    | zero => simp only [List.getElem?_cons_zero, Option.some.injEq] at hj; subst hj; exact ⟨y, hy, by simp⟩
    | succ j => simpa using h2 j b (by simpa using hj)

def fieldsOf (F : FT) : Option (ByteArray × List S45) :=
  if 1 ≤ F.kind ∧ F.kind ≤ 8 then ((kindFd (F.kind - 1).toNat).mapM fun f => (textOf F f).map fun t => (⟨f.str, t⟩ : S45)).map fun l => ((kAt (F.kind - 1).toNat).1, l) else some (⟨#[]⟩, [])

theorem kindFd_pos : ∀ n, n < 8 → 0 < (kindFd n).length ∧ (kindFd n).length ≤ 4 := by
  intro n hn
  match n, hn with
  | 0, _ => decide | 1, _ => decide | 2, _ => decide | 3, _ => decide | 4, _ => decide | 5, _ => decide | 6, _ => decide | 7, _ => decide

set_option maxHeartbeats 3200000 in
set_option maxRecDepth 100000 in
theorem Fields_yes (F : FT) (A3 : Option Addr) (c3 : Nat) (A5 : Option Addr) (c5 : Nat) (k : Nat) (L : List S45) (w : World) (hr3 : Kd.C Kd.string w A3 F.onA.length F.onA) (hc3 : F.onA.length ≤ c3) (hr5 : Kd.C Kd.string w A5 F.andA.length F.andA) (hc5 : F.andA.length ≤ c5)
    (hk : k < 8) (hkind : F.kind = (k : Int) + 1) (hL : (kindFd k).mapM (fun f => (textOf F f).map fun t => (⟨f.str, t⟩ : S45)) = some L) (hG : Env w) :
    Calls Tryz.prog 17 #[.agg (featCells F (.slice A3 F.onA.length c3) (.slice A5 F.andA.length c5))] w fun e w' => ∃ v1_ : Value, e = .returned (.tuple #[.string (kAt k).1, v1_]) ∧ Kd.R k45 45 w' w.heap.size (fun _ => True) v1_ L ∧ Below w.heap.size w w' := by
  obtain ⟨hl1, hl2⟩ := mapM_spec hL
  obtain ⟨hp0, hp4⟩ := kindFd_pos k hk
  have hks := kindFd_str k hk
  have HL := Aside0.mk hl2
  have HKS := Aside0.mk hks
  have HKIND := Aside0.mk hkind
  have HF0 := Aside0.mk (FeatAt.mk (w := w.alloc (.cells (featCells F (.slice A3 F.onA.length c3) (.slice A5 F.andA.length c5)) 30)) (blk_new w _) hc3 (Kd.C_below hr3 (below_alloc (Below.refl _ _) _)) hc5 (Kd.C_below hr5 (below_alloc (Below.refl _ _) _)))
  have HB0 := Aside0.mk (below_alloc (Below.refl w.heap.size w) (.cells (featCells F (.slice A3 F.onA.length c3) (.slice A5 F.andA.length c5)) 30))
  have x1 := (blk_cell HF0.out.blk 1).trans rfl
  rw [show (featCells F (.slice A3 F.onA.length c3) (.slice A5 F.andA.length c5))[1]? = some (.int .i64 ((k : Int) + 1)) by rw [← hkind]; rfl] at x1
  have HR3 := Aside0.mk hr3
  have HR5 := Aside0.mk hr5
  have HBK0 := Aside0.mk (blk_new w (.cells (featCells F (.slice A3 F.onA.length c3) (.slice A5 F.andA.length c5)) 30))
  clear hL hl2 hks hkind hr3 hr5 HF0
  go_enter Tryz.func17, Tryz.ntmps17
  go_wp2_with fail
  refine (fields_yes k hk w _ hG HB0.out).mono ?_
  rintro e1 w1 ⟨A, c, rfl, hlc, hCown, rfl⟩
  have hlen : (kAt k).2.length = (kindFd k).length := by rw [HKS.out, List.length_map]
  rw [hlen] at hlc hCown
  rw [hlen]
  obtain ⟨b, o, rfl, hblt, hown⟩ := C_string_cells (by rw [hlen]; exact hCown) (by rw [hlen]; exact hp0)
  have hown1 : ∀ (j : Nat) f, (kindFd k)[j]? = some f → w.cell? ⟨b, o + j, none⟩ = some (.string f.str) := fun j f hj => hown j f.str (by rw [HKS.out, List.getElem?_map, hj]; rfl)
  have HOWN := Aside0.mk hown1
  clear hown hown1 hCown hlen x1 hblt
  go_wp2_with fail
  refine (places_any ⟨w.heap.size, 0, none⟩ _).mono ?_
  rintro e1 w1 ⟨rfl, rfl⟩
  have HBK1 := Aside0.mk (blk_alloc HBK0.out (.cells #[.pointer (some ⟨w.heap.size, 0, none⟩)] 53))
  have HCL1 := Aside0.mk (blk_new (w.alloc (.cells (featCells F (.slice A3 F.onA.length c3) (.slice A5 F.andA.length c5)) 30)) (.cells #[.pointer (some ⟨w.heap.size, 0, none⟩)] 53))
  have HB1 := Aside0.mk (below_alloc HB0.out (.cells #[.pointer (some ⟨w.heap.size, 0, none⟩)] 53))
  have hsz1 : (w.alloc (.cells (featCells F (.slice A3 F.onA.length c3) (.slice A5 F.andA.length c5)) 30)).heap.size = w.heap.size + 1 := by simp
  rw [hsz1] at HCL1
  clear hsz1 HBK0 HB0
  go_wp2_with fail
  go_loopw [7, 21] (fun v i wr => ∃ n : Nat, i = .int .i64 n ∧ n ≤ (kindFd k).length ∧ Aside0 (Kd.R k45 45 wr w.heap.size (fun _ => True) v (L.take n)) ∧ Aside0 (wr.heap[w.heap.size]? = some (.cells (featCells F (.slice A3 F.onA.length c3) (.slice A5 F.andA.length c5)) 30 (0, 0))) ∧ Aside0 (wr.heap[w.heap.size + 1]? = some (.cells #[.pointer (some ⟨w.heap.size, 0, none⟩)] 53 (0, 0))) ∧ Aside0 (Below w.heap.size w wr))
    (fun _ i _ => 8 - (intOf i).toNat)
  case atStart => exact ⟨0, rfl, Nat.zero_le _, ⟨Kd.R_nil _ _ _ _ _⟩, HBK1, HCL1, HB1⟩
  case round =>
    obtain ⟨n, rfl, hn, HR, HBK, HCL, HB⟩ := hrel
    clear HBK1 HCL1 HB1
    by_cases hlt : n < (kindFd k).length
    · obtain ⟨f, hf⟩ : ∃ f, (kindFd k)[n]? = some f := ⟨_, List.getElem?_eq_getElem hlt⟩
      obtain ⟨y, hy, hLy⟩ := HL.out n f hf
      obtain ⟨r, hr, rfl⟩ := Option.map_eq_some_iff.1 hy
      have hx := (HB.out.cell (p := ⟨b, o + n, none⟩) (World.block_lt_of_cell? _ _ (HOWN.out n f hf))).trans (HOWN.out n f hf)
      have HT := Aside0.mk hr
      have hLs : L.take (n + 1) = L.take n ++ [⟨f.str, r⟩] := by rw [List.take_succ_eq_append_getElem (by omega)]; congr 1; rw [List.getElem?_eq_getElem (by omega)] at hLy; exact congrArg (fun z => [z]) (Option.some.inj hLy)
      have HLS := Aside0.mk hLs
      clear hy hLy hr hf hLs
      go_wp2_with fail
      refine (places1_any f (w.heap.size + 1) w.heap.size _ ((blk_cell HCL.out 0).trans rfl)).mono ?_
      rintro e2 w2 ⟨rfl, hb2⟩
      replace HBK := Aside0.mk (blk_below HBK.out hb2)
      replace HCL := Aside0.mk (blk_below HCL.out hb2)
      replace HR := Aside0.mk (Kd.R_below HR.out hb2)
      replace HB := Aside0.mk (below_step HB.out hb2)
      clear hb2 hx
      go_wp2_with fail
      refine (get_any f (FeatAt.mk HBK.out hc3 (Kd.C_below HR3.out HB.out) hc5 (Kd.C_below HR5.out HB.out)) r HT.out).mono ?_
      rintro e3 w3 ⟨rfl, hb3⟩
      replace HBK := Aside0.mk (blk_below HBK.out hb3)
      replace HCL := Aside0.mk (blk_below HCL.out hb3)
      replace HR := Aside0.mk (Kd.R_below HR.out hb3)
      replace HB := Aside0.mk (below_step HB.out hb3)
      clear hb3
      go_wp2_with (first | ((with_reducible refine gate_dst (N := 33) rfl ?_); refine Kd.R_append k45 (w0 := w) w.heap.size rfl (.tmp 25) (.tmp 32) 22 45 (.agg #[.string ⟨#[]⟩, .string ⟨#[]⟩]) 32 rfl Tryz.underlying22 info45 rfl (by decide) (by decide) _ (L.take n) (⟨f.str, r⟩ : S45) [.string f.str, .string r] (fun _ => True) (fun _ => False) rfl rfl (k45_mkM _ _ _ _) (fun _ h_ => h_.elim) (fun _ _ => trivial) HR.out HB.out (below_size HB.out) (by rw [List.length_take]; omega) ?_; intro v1 w4 hR1 hb1 hg1 hat1; replace HBK := Aside0.mk (blk_grown HBK.out hg1 (Kd.R_ne HR.out HBK.out (by decide))); replace HCL := Aside0.mk (blk_grown HCL.out hg1 (Kd.R_ne HR.out HCL.out (by decide))); replace HB := Aside0.mk hb1; have HR1 := Aside0.mk hR1; clear hR1 hb1 hg1 hat1))
      go_roundw
      case rel => exact ⟨n + 1, by go_num, by omega, ⟨by rw [HLS.out]; exact HR1.out⟩, HBK, HCL, HB⟩
      case measure => simp [intOf]; omega
    · obtain rfl : n = (kindFd k).length := by omega
      have hT : L.take (kindFd k).length = L := List.take_of_length_le (by omega)
      have HR1 : Aside0 (Kd.R k45 45 wr w.heap.size (fun _ => True) u7 L) := ⟨by have := HR.out; rw [hT] at this; exact this⟩
      obtain ⟨KA, Kc, hkc, hkl, hKC⟩ := (hG.below HB.out).kinds
      obtain ⟨ad, A1, c1, rfl, z0, z1, -, -⟩ := kinds_at hKC k hk
      have hk8 : kindTab.length = 8 := rfl
      rw [hk8] at hkc hkl
      have y1 := (blk_cell HBK.out 1).trans rfl
      rw [show (featCells F (.slice A3 F.onA.length c3) (.slice A5 F.andA.length c5))[1]? = some (.int .i64 ((k : Int) + 1)) by rw [← HKIND.out]; rfl] at y1
      clear hT HR hKC hk8 z1
      go_wp2_with fail
      go_ret2
      exact ⟨_, rfl, HR1.out, HB.out⟩

set_option maxHeartbeats 1600000 in
theorem Fields_no (F : FT) (v3 v5 : Value) (w : World) (hk : ¬ (1 ≤ F.kind ∧ F.kind ≤ 8)) (hG : Env w) :
    Calls Tryz.prog 17 #[.agg (featCells F v3 v5)] w fun e w' => e = .returned (.tuple #[.string ⟨#[]⟩, .slice none 0 0]) ∧ Below w.heap.size w w' := by
  obtain ⟨kk, hkk⟩ : ∃ kk, kk = F.kind := ⟨_, rfl⟩
  rw [← hkk] at hk
  have HB0 := Aside0.mk (below_alloc (Below.refl w.heap.size w) (.cells (featCells F v3 v5) 30))
  have x1 := (blk_cell (blk_new w (.cells (featCells F v3 v5) 30)) 1).trans rfl
  rw [show (featCells F v3 v5)[1]? = some (.int .i64 kk) by rw [hkk]; rfl] at x1
  clear hkk
  go_enter Tryz.func17, Tryz.ntmps17
  go_wp2_with fail
  refine (fields_no kk hk _ (hG.below HB0.out)).mono ?_
  rintro e1 w1 ⟨rfl, rfl⟩
  go_wp2_with fail
  go_ret2
  exact ⟨rfl, HB0.out⟩

theorem Fields_any (a0 : ByteArray) (a1 : Int) (a2 : ByteArray) (A3 : Option Addr) (c3 : Nat) (l3 : List ByteArray) (a4 : ByteArray) (A5 : Option Addr) (c5 : Nat) (l5 : List ByteArray) (a6 a7 a8 a9 a10 a11 : ByteArray) (r1 : ByteArray) (r2 : List S45) (w : World)
    (hr3 : Kd.C Kd.string w A3 l3.length l3) (hc3 : l3.length ≤ c3) (hr5 : Kd.C Kd.string w A5 l5.length l5) (hc5 : l5.length ≤ c5) (h : fieldsOf ⟨a0, a1, a2, l3, a4, l5, a6, a7, a8, a9, a10, a11⟩ = some (r1, r2)) (hG : Env w) :
    Calls Tryz.prog 17 #[.agg #[.string a0, .int .i64 a1, .string a2, .slice A3 l3.length c3, .string a4, .slice A5 l5.length c5, .string a6, .string a7, .string a8, .string a9, .string a10, .string a11]] w fun e w' => ∃ v1_ : Value, e = .returned (.tuple #[.string r1, v1_]) ∧ Kd.R k45 45 w' w.heap.size (fun _ => True) v1_ r2 ∧ Below w.heap.size w w' := by
  unfold fieldsOf at h
  by_cases hk : 1 ≤ a1 ∧ a1 ≤ 8
  · rw [if_pos hk] at h
    obtain ⟨L, hL, he⟩ := Option.map_eq_some_iff.1 h
    simp only [Prod.mk.injEq] at he
    obtain ⟨rfl, rfl⟩ := he
    exact Fields_yes ⟨a0, a1, a2, l3, a4, l5, a6, a7, a8, a9, a10, a11⟩ A3 c3 A5 c5 (a1 - 1).toNat _ w hr3 hc3 hr5 hc5 (by omega) (by show a1 = _; omega) hL hG
  · rw [if_neg hk] at h
    simp only [Option.some.injEq, Prod.mk.injEq] at h
    obtain ⟨rfl, rfl⟩ := h
    exact (Fields_no ⟨a0, a1, a2, l3, a4, l5, a6, a7, a8, a9, a10, a11⟩ _ _ w hk hG).mono fun e w' ⟨he, hb⟩ => ⟨_, he, Kd.R_nil _ _ _ _ _, hb⟩

end Go.Proofs.YtoccbcfjbingbaaGreatDoor.X30
