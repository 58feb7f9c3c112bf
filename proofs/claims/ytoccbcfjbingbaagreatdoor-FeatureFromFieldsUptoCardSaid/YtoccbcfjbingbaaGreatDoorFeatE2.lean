/- slices.Index, Contains, Equal at strings: what the printed functions come to. -/
import Derived.Test.YtoccbcfjbingbaaGreatDoorFeatC
import Derived.Test.YtoccbcfjbingbaaGreatDoorX30x4
import Derived.Test.YtoccbcfjbingbaaGreatDoorX30x7
import Derived.Test.YtoccbcfjbingbaaGreatDoorFeatD
import Derived.Test.YtoccbcfjbingbaaGreatDoorX30x4
namespace Go.Proofs.YtoccbcfjbingbaaGreatDoor.X30
open Go Go.RowKit Go.Proofs.YtoccbcfjbingbaaGreatDoorW.PrintWords Go.Proofs.YtoccbcfjbingbaaGreatDoorW.PrintLast
theorem rdOf_app {l pre rest : List ByteArray} {x : ByteArray} (h : l = pre ++ x :: rest) : rdOf ByteArray.empty l (pre.length : Int) = x := by
 subst h
 simp [rdOf, List.getD_eq_getElem?_getD]
theorem w64n {i : Int} (h0 : -9223372036854775808 ≤ i) (h : i ≤ 9223372036854775807) : wrap64 i = i := by unfold wrap64; omega
def idxOf (a : ByteArray) : List ByteArray → Nat → Int
 | [], _ => -1
 | x :: l, n => if a.toList = x.toList then n else idxOf a l (n + 1)
theorem index_l0 (l : List ByteArray) (a : ByteArray) (hl : l.length ≤ 9223372036854775807) : ∀ (rest pre : List ByteArray), l = pre ++ rest → ∀ k, rest.length < k →
 slices_Index_string_string.l0 k l a (l.length : Int) pre.length = some (idxOf a rest pre.length) := by
 intro rest
 induction rest with
 | nil =>
  intro pre h k hk
  obtain ⟨k, rfl⟩ : ∃ m, k = m + 1 := ⟨k - 1, by simp at hk; omega⟩
  have hsz : l.length = pre.length := by rw [h]; simp
  simp only [slices_Index_string_string.l0]
  rw [if_neg (by omega)]; rfl
 | cons x rest ih =>
  intro pre h k hk
  obtain ⟨k, rfl⟩ : ∃ m, k = m + 1 := ⟨k - 1, by simp at hk; omega⟩
  have hsz : l.length = pre.length + rest.length + 1 := by rw [h]; simp; omega
  simp only [slices_Index_string_string.l0]
  rw [if_pos (by omega), if_pos (by omega), if_pos (by omega), rdOf_app h]
  by_cases e : a.toList = x.toList
  · rw [if_pos e]; simp only [idxOf]; rw [if_pos e]
  · rw [if_neg e, w64n (by omega) (by omega)]
    have := ih (pre ++ [x]) (by rw [h]; simp) k (by simp at hk; omega)
    simp only [List.length_append, List.length_cons, List.length_nil, Nat.zero_add, Int.natCast_add, Int.cast_ofNat_Int] at this
    rw [this]; simp only [idxOf]; rw [if_neg e]
theorem index_spec (l : List ByteArray) (a : ByteArray) (hl : l.length ≤ 9223372036854775807) (k : Nat) (hk : l.length < k) : slices_Index_string_string.f k l a = some (idxOf a l 0) :=
 index_l0 l a hl l [] rfl k hk
theorem idxOf_ge (a : ByteArray) : ∀ (l : List ByteArray) (n : Nat), 0 ≤ idxOf a l n ↔ l.any (fun x => a.toList == x.toList) = true
 | [], n => by simp [idxOf]
 | x :: l, n => by
  simp only [idxOf, List.any_cons]
  split
  · next h => simp [h]
  · next h =>
    rw [idxOf_ge a l (n + 1)]
    simp [h]
def memS (l : List ByteArray) (a : ByteArray) : Bool := l.any (fun x => a.toList == x.toList)
theorem contains_spec (l : List ByteArray) (a : ByteArray) (hl : l.length ≤ 9223372036854775807) (k : Nat) (hk : l.length < k) : slices_Contains_string_string.f k l a = some (memS l a) := by
 unfold slices_Contains_string_string.f
 rw [index_spec l a hl k hk, Option.bind_some]
 have := idxOf_ge a l 0
 congr 1
 unfold memS
 cases h : l.any (fun x => a.toList == x.toList)
 · rw [h] at this; simp at this; exact decide_eq_false (by omega)
 · rw [h] at this; simp at this; exact decide_eq_true (by omega)
theorem str_ext' {s t : ByteArray} (h : s.toList = t.toList) : s = t := by
 rw [ByteArray.toList_eq, ByteArray.toList_eq] at h
 cases s; cases t; simp only [ByteArray.mk.injEq]; exact Array.toList_inj.1 h
theorem equal_l0 (l m : List ByteArray) (hlm : l.length = m.length) (hl : l.length ≤ 9223372036854775807) : ∀ (rest rest' pre pre' : List ByteArray), l = pre ++ rest → m = pre' ++ rest' → pre.length = pre'.length → ∀ k, rest.length < k →
 slices_Equal_string_string.l0 k l m (l.length : Int) pre.length = some (decide (rest = rest')) := by
 intro rest
 induction rest with
 | nil =>
  intro rest' pre pre' h h' hp k hk
  obtain ⟨k, rfl⟩ : ∃ m, k = m + 1 := ⟨k - 1, by simp at hk; omega⟩
  have hsz : l.length = pre.length := by rw [h]; simp
  have hsz' : m.length = pre'.length + rest'.length := by rw [h']; simp
  obtain rfl : rest' = [] := List.eq_nil_of_length_eq_zero (by omega)
  simp only [slices_Equal_string_string.l0]
  rw [if_neg (by omega)]; simp
 | cons x rest ih =>
  intro rest' pre pre' h h' hp k hk
  obtain ⟨k, rfl⟩ : ∃ m, k = m + 1 := ⟨k - 1, by simp at hk; omega⟩
  have hsz : l.length = pre.length + rest.length + 1 := by rw [h]; simp; omega
  have hsz' : m.length = pre'.length + rest'.length := by rw [h']; simp
  cases rest' with
  | nil => simp at hsz'; omega
  | cons y rest' =>
   simp only [slices_Equal_string_string.l0]
   have e2 : rdOf ByteArray.empty m (pre.length : Int) = y := by rw [hp]; exact rdOf_app h'
   rw [if_pos (by omega), if_pos (by omega), if_pos (by omega), rdOf_app h]
   rw [if_pos (by simp at hsz'; omega), e2]
   by_cases e : x.toList = y.toList
   · obtain rfl := str_ext' e
     rw [if_pos rfl, w64n (by omega) (by omega)]
     have := ih rest' (pre ++ [x]) (pre' ++ [x]) (by rw [h]; simp) (by rw [h']; simp) (by simp [hp]) k (by simp at hk; omega)
     simp only [List.length_append, List.length_cons, List.length_nil, Nat.zero_add, Int.natCast_add, Int.cast_ofNat_Int] at this
     rw [this]; simp
   · rw [if_neg e]
     have : x ≠ y := fun h => e (by rw [h])
     simp [this]
theorem equal_spec (l m : List ByteArray) (hl : l.length ≤ 9223372036854775807) (k : Nat) (hk : l.length < k) : slices_Equal_string_string.f k l m = some (decide (l = m)) := by
 unfold slices_Equal_string_string.f
 by_cases h : l.length = m.length
 · rw [if_pos (by omega)]
   exact equal_l0 l m h hl l m [] [] rfl rfl rfl k hk
 · rw [if_neg (by omega)]
   have : l ≠ m := fun e => h (by rw [e])
   simp [this]
end Go.Proofs.YtoccbcfjbingbaaGreatDoor.X30
namespace Go.Proofs.YtoccbcfjbingbaaGreatDoor.X30
open Go Go.RowKit Go.Shelf Go.Proofs.YtoccbcfjbingbaaGreatDoorW.PrintWords Go.Proofs.YtoccbcfjbingbaaGreatDoorW.PrintLast Go.Proofs.YtoccbcfjbingbaaGreatDoorW.PrintMore
def Fd.ix : Fd → Nat | .on => 0 | .and => 1 | .sketch => 2 | .amount => 3 | .count => 4 | .x => 5 | .y => 6 | .z => 7
def Fd.isSketch : Fd → Bool | .sketch => true | _ => false
def lastOf (k : Nat) (F : FT) (f : Fd) (text : ByteArray) : Option Int :=
 if text.toList.isEmpty then some 9 else if 2000 < text.size then some 6 else
 if f.isSketch then
  (if F.kind = 7 ∧ text.toList ≠ [120] ∧ text.toList ≠ [121] ∧ text.toList ≠ [122] then some 3 else if F.kind = 8 then (facename_New.f k F.id text 0).map fun p => if p.2 = 0 then 0 else 3 else some 0)
 else some 0
def badOf (k : Nat) (F : FT) (f : Fd) (text : ByteArray) : Option Bool :=
 if f.isRef then (resolve_Parse.f k text).map fun p => !(p.2.2 && decide (p.1 = F.refT f) && decide (p.2.1 = F.refA f)) else some false
def soundOf (k : Nat) (F : FT) (f : Fd) : Option Int := (textOf F f).bind fun text => (badOf k F f text).bind fun bad => if bad then some 3 else lastOf k F f text
set_option maxHeartbeats 3200000 in
set_option maxRecDepth 100000 in
theorem sound_ref (k : Nat) (f : Fd) (hf : f.isRef = true) (o : Nat) (hs : ∀ P, slotV P f = .agg #[.pointer (some ⟨P, o, none⟩), .pointer none]) {w : World} {P : Nat} {F : FT} {A3 A5 : Option Addr} {c3 c5 : Nat} (v3 v5 : Value) (A : Option Addr) (c : Nat) (hF : FeatAt w P F A3 c3 A5 c5)
 (h0 : w.cell? ⟨P, o, none⟩ = some (.string (F.refT f))) (h1 : w.cell? ⟨P, o + 1, none⟩ = some (.slice A (F.refA f).length c)) (hc : (F.refA f).length ≤ c) (hC : Kd.C Kd.string w A (F.refA f).length (F.refA f))
 (r : Int) (hG : Env w) (h : soundOf k F f = some r) (hfs : (f.str.toList == [115, 107, 101, 116, 99, 104]) = false) (hsk : f.isSketch = false) :
 Calls Tryz.prog 35 #[.agg (featCells F v3 v5), .string f.str, slotV P f] w fun e w' => e = .returned (.int .i64 r) ∧ Below w.heap.size w w' := by
 unfold soundOf at h
 obtain ⟨text, ht, h⟩ := Option.bind_eq_some_iff.1 h
 obtain ⟨bad, hbad, h⟩ := Option.bind_eq_some_iff.1 h
 unfold badOf at hbad
 rw [if_pos hf] at hbad
 obtain ⟨⟨r1, r2, r3⟩, hp, hq⟩ := Option.map_eq_some_iff.1 hbad
 simp only at hq
 have HP := Aside0.mk hp
 have HQ := Aside0.mk hq
 have HR := Aside0.mk h
 have HC := Aside0.mk hC
 have Hc := Aside0.mk hc
 obtain ⟨oA, hoA⟩ : ∃ oA, oA = Obj.cells (featCells F v3 v5) 30 (0, 0) := ⟨_, rfl⟩
 have hb0 : Below w.heap.size w ((w.alloc oA).alloc (.cells #[.pointer (some ⟨P, o, none⟩), .pointer none] 59)) := below_alloc (below_alloc (Below.refl _ _) _) _
 have hbx := blk_new (w.alloc oA) (.cells #[.pointer (some ⟨P, o, none⟩), .pointer none] 59)
 have hsz : (w.alloc oA).heap.size = w.heap.size + 1 := by simp
 rw [hsz] at hbx
 have hg1 := get_any f (hF.below hb0) text ht
 have hG1 := hG.below hb0
 rw [hs P] at hg1
 rw [hs P]
 rw [hoA] at hb0 hbx hg1 hG1
 have HGET := Aside0.mk hg1
 clear hsz hG hg1 h hp hq hbad ht hC hc hoA
 go_enter Tryz.func35, Tryz.ntmps35
 go_wp2_with fail
 refine HGET.out.mono ?_
 rintro e1 w1 ⟨rfl, hb1⟩
 have hbb1 := below_step hb0 hb1
 replace hbx := blk_below hbx hb1
 have hG2 := hG1.below hb1
 have x0 := (blk_cell hbx 0).trans rfl
 have x1 := (blk_cell hbx 1).trans rfl
 clear hb1 hG1 HGET
 go_wp2_with fail
 refine (resolve_Parse.calls k text r1 r2 r3 _ HP.out hG2).mono ?_
 rintro e2 w2 ⟨v', rfl, hQ2, hb2⟩
 obtain ⟨Ar, cr, rfl, hlr, hCr⟩ := Kd.Q_reads hQ2
 have hbb2 := below_step hbb1 hb2
 replace hbx := blk_below hbx hb2
 have p0 := (hbb2.cell (p := ⟨P, o, none⟩) (World.block_lt_of_cell? _ _ h0)).trans h0
 have p1 := (hbb2.cell (p := ⟨P, o + 1, none⟩) (World.block_lt_of_cell? _ _ h1)).trans h1
 have HB := Aside0.mk (below_alloc hbb2 (.cells #[.string r1, .slice Ar r2.length cr] 27))
 have HCr := Aside0.mk (Kd.C_below hCr (below_alloc (Below.refl _ w2) (.cells #[.string r1, .slice Ar r2.length cr] 27)))
 have HCa := Aside0.mk (Kd.C_below HC.out HB.out)
 replace x0 := (blk_cell hbx 0).trans rfl
 replace x1 := (blk_cell hbx 1).trans rfl
 clear hb2 hbb1 hb0 hG2 hQ2 hCr hbb2
 have hpl1 : P < w2.heap.size := World.block_lt_of_cell? _ _ p0
 have p0a : ∀ o', (w2.alloc o').cell? ⟨P, o, none⟩ = some (.string (F.refT f)) := fun o' => (((Below.refl _ w2).alloc (Nat.le_refl _) o').cell (p := ⟨P, o, none⟩) hpl1).trans p0
 have p1a : ∀ o', (w2.alloc o').cell? ⟨P, o + 1, none⟩ = some (.slice A (F.refA f).length c) := fun o' => (((Below.refl _ w2).alloc (Nat.le_refl _) o').cell (p := ⟨P, o + 1, none⟩) hpl1).trans p1
 have hxl : w.heap.size + 1 < w2.heap.size := World.block_lt_of_cell? _ _ x0
 have x0a : ∀ o', (w2.alloc o').cell? ⟨w.heap.size + 1, 0, none⟩ = some (.pointer (some ⟨P, o, none⟩)) := fun o' => (((Below.refl _ w2).alloc (Nat.le_refl _) o').cell (p := ⟨w.heap.size + 1, 0, none⟩) hxl).trans x0
 have x1a : ∀ o', (w2.alloc o').cell? ⟨w.heap.size + 1, 1, none⟩ = some (.pointer none) := fun o' => (((Below.refl _ w2).alloc (Nat.le_refl _) o').cell (p := ⟨w.heap.size + 1, 1, none⟩) hxl).trans x1
 clear h0 h1 hbx x0 x1
 cases r3 with
 | false =>
  have hb : bad = true := by rw [← HQ.out]; simp
  have hr := HR.out
  rw [if_pos hb] at hr
  obtain rfl := Option.some.inj hr
  clear HQ HR HP hb hr p0 p1 p0a p1a HCr HCa
  go_wp2_with fail
  go_quiet (fail)
  go_wp2_with fail
  go_ret
  exact ⟨rfl, pw_below_drewN HB.out _⟩
 | true =>
  by_cases hT : r1 = F.refT f
  · subst hT
    have hspec := equal_spec r2 (F.refA f) HCr.out.2.1 (r2.length + 1) (Nat.lt_succ_self _)
    have hE := fun (nq : Nat) => slices_Equal_string_string.calls (r2.length + 1) Ar cr r2 A c (F.refA f) (decide (r2 = F.refA f)) ((w2.alloc (.cells #[.string (F.refT f), .slice Ar r2.length cr] 27)).drewN nq) (Kd.C_below HCr.out (pw_below_drewN (Below.refl _ _) nq)) hlr (Kd.C_below HCa.out (pw_below_drewN (Below.refl _ _) nq)) Hc.out hspec
    clear hspec
    cases hA : decide (r2 = F.refA f) with
    | false =>
     have hb : bad = true := by rw [← HQ.out]; simp [hA]
     have hr := HR.out
     rw [if_pos hb] at hr
     obtain rfl := Option.some.inj hr
     rw [hA] at hE
     clear HQ HR HP hb hr HCr HCa hA
     go_wp2_with fail
     go_quiet ((go_at_call 47; exact Calls.quiet_of ((hE _).mono fun _ _ ⟨h1, h2⟩ => ⟨h1, h2.out⟩)))
     go_wp2_with fail
     go_ret
     exact ⟨rfl, pw_below_drewN HB.out _⟩
    | true =>
     have hb : bad = false := by rw [← HQ.out]; simp [hA]
     have hr := HR.out
     rw [if_neg (by rw [hb]; exact Bool.false_ne_true)] at hr
     rw [hA] at hE
     have HR1 := Aside0.mk hr
     clear HQ HR HP hb hr HCr HCa hA
     go_wp2_with fail
     go_quiet ((go_at_call 47; exact Calls.quiet_of ((hE _).mono fun _ _ ⟨h1, h2⟩ => ⟨h1, h2.out⟩)))
     generalize hW4 : (World.drewN _ _) = W4
     have HB4 : Aside0 (Below w.heap.size w W4) := ⟨by rw [← hW4]; exact pw_below_drewN HB.out _⟩
     clear hW4 p0 p1 p0a p1a x0a x1a HB hE
     have hl := HR1.out
     unfold lastOf at hl
     cases he : text.toList.isEmpty with
     | true =>
      rw [he, if_pos rfl] at hl
      obtain rfl := Option.some.inj hl
      clear hl HR1
      go_wp2_with fail
      go_ret
      exact ⟨rfl, HB4.out⟩
     | false =>
      rw [he, if_neg Bool.false_ne_true] at hl
      have he2 : (text.toList == []) = false := by cases hx : text.toList with | nil => rw [hx] at he; simp at he | cons => rfl
      by_cases hz : 2000 < text.size
      · rw [if_pos hz] at hl
        obtain rfl := Option.some.inj hl
        clear hl HR1
        go_wp2_with fail
        go_ret
        exact ⟨rfl, HB4.out⟩
      · rw [if_neg hz, hsk, if_neg Bool.false_ne_true] at hl
        obtain rfl := Option.some.inj hl
        clear hl HR1
        go_wp2_with fail
        go_ret
        exact ⟨rfl, HB4.out⟩
  · have hb : bad = true := by rw [← HQ.out]; simp [hT]
    have hr := HR.out
    rw [if_pos hb] at hr
    obtain rfl := Option.some.inj hr
    have hT1 : (r1.toList == (F.refT f).toList) = false := beq_eq_false_iff_ne.2 (fun h => hT (str_ext' h))
    clear HQ HR HP hb hr HCr HCa hT
    go_wp2_with fail
    go_quiet (fail)
    go_wp2_with fail
    go_ret
    exact ⟨rfl, pw_below_drewN HB.out _⟩
theorem getNil {t : ByteArray} (he : t.toList.isEmpty = false) : (t.toList == []) = false := by cases hx : t.toList with | nil => rw [hx] at he; simp at he | cons => rfl
set_option maxHeartbeats 3200000 in
set_option maxRecDepth 100000 in
theorem sound_text (k : Nat) (f : Fd) (hf : f.isRef = false) (o : Nat) (hs : ∀ P, slotV P f = .agg #[.pointer none, .pointer (some ⟨P, o, none⟩)]) {w : World} {P : Nat} {F : FT} {A3 A5 : Option Addr} {c3 c5 : Nat} (v3 v5 : Value) (hF : FeatAt w P F A3 c3 A5 c5)
 (r : Int) (hG : Env w) (h : soundOf k F f = some r) (hfs : (f.str.toList == [115, 107, 101, 116, 99, 104]) = f.isSketch) :
 Calls Tryz.prog 35 #[.agg (featCells F v3 v5), .string f.str, slotV P f] w fun e w' => e = .returned (.int .i64 r) ∧ Below w.heap.size w w' := by
 unfold soundOf at h
 obtain ⟨text, ht, h⟩ := Option.bind_eq_some_iff.1 h
 obtain ⟨bad, hbad, hl⟩ := Option.bind_eq_some_iff.1 h
 unfold badOf at hbad
 rw [hf, if_neg Bool.false_ne_true] at hbad
 obtain rfl := Option.some.inj hbad
 rw [if_neg Bool.false_ne_true] at hl
 have HL := Aside0.mk hl
 have hb0 : Below w.heap.size w ((w.alloc (.cells (featCells F v3 v5) 30)).alloc (.cells #[.pointer none, .pointer (some ⟨P, o, none⟩)] 59)) := below_alloc (below_alloc (Below.refl _ _) _) _
 have hbx := blk_new (w.alloc (.cells (featCells F v3 v5) 30)) (.cells #[.pointer none, .pointer (some ⟨P, o, none⟩)] 59)
 have hby := blk_alloc (blk_new w (.cells (featCells F v3 v5) 30)) (.cells #[.pointer none, .pointer (some ⟨P, o, none⟩)] 59)
 have hsz : (w.alloc (.cells (featCells F v3 v5) 30)).heap.size = w.heap.size + 1 := by simp
 rw [hsz] at hbx
 have hg1 := get_any f (hF.below hb0) text ht
 have hG1 := hG.below hb0
 rw [hs P] at hg1
 rw [hs P]
 have HGET := Aside0.mk hg1
 clear hsz hG hg1 h ht hl
 go_enter Tryz.func35, Tryz.ntmps35
 go_wp2_with fail
 refine HGET.out.mono ?_
 rintro e1 w1 ⟨rfl, hb1⟩
 have HB := Aside0.mk (below_step hb0 hb1)
 replace hbx := blk_below hbx hb1
 replace hby := blk_below hby hb1
 have HG2 := Aside0.mk (hG1.below hb1)
 have x0 := (blk_cell hbx 0).trans rfl
 have x1 := (blk_cell hbx 1).trans rfl
 have y0 : w1.cell? ⟨w.heap.size, 0, none⟩ = some (.string F.id) := (blk_cell hby 0).trans rfl
 have y1 : w1.cell? ⟨w.heap.size, 1, none⟩ = some (.int .i64 F.kind) := (blk_cell hby 1).trans rfl
 clear hb1 hG1 HGET hb0 hbx hby
 have hl := HL.out
 unfold lastOf at hl
 cases he : text.toList.isEmpty with
 | true =>
  rw [he, if_pos rfl] at hl
  obtain rfl := Option.some.inj hl
  clear hl HL
  go_wp2_with fail
  go_ret
  exact ⟨rfl, HB.out⟩
 | false =>
  rw [he, if_neg Bool.false_ne_true] at hl
  have he2 := getNil he
  by_cases hz : 2000 < text.size
  · rw [if_pos hz] at hl
    obtain rfl := Option.some.inj hl
    clear hl HL
    go_wp2_with fail
    go_ret
    exact ⟨rfl, HB.out⟩
  · rw [if_neg hz] at hl
    cases hsk : f.isSketch with
    | false =>
     rw [hsk, if_neg Bool.false_ne_true] at hl
     rw [hsk] at hfs
     obtain rfl := Option.some.inj hl
     clear hl HL hsk
     go_wp2_with fail
     go_ret
     exact ⟨rfl, HB.out⟩
    | true =>
     rw [hsk, if_pos rfl] at hl
     rw [hsk] at hfs
     by_cases h7 : F.kind = 7
     · have k7 : (F.kind == 7) = true := beq_iff_eq.2 h7
       have k8 : (F.kind == 8) = false := by rw [beq_eq_false_iff_ne]; omega
       by_cases tx : text.toList = [120]
       · rw [if_neg (fun h => h.2.1 tx), if_neg (by omega)] at hl
         obtain rfl := Option.some.inj hl
         have tx1 : (text.toList == [120]) = true := beq_iff_eq.2 tx
         clear hl HL hsk tx h7 he2
         go_wp2_with fail
         go_ret
         exact ⟨rfl, HB.out⟩
       · have tx1 : (text.toList == [120]) = false := beq_eq_false_iff_ne.2 tx
         by_cases ty : text.toList = [121]
         · rw [if_neg (fun h => h.2.2.1 ty), if_neg (by omega)] at hl
           obtain rfl := Option.some.inj hl
           have ty1 : (text.toList == [121]) = true := beq_iff_eq.2 ty
           clear hl HL hsk tx ty h7 he2
           go_wp2_with fail
           go_ret
           exact ⟨rfl, HB.out⟩
         · have ty1 : (text.toList == [121]) = false := beq_eq_false_iff_ne.2 ty
           by_cases tz : text.toList = [122]
           · rw [if_neg (fun h => h.2.2.2 tz), if_neg (by omega)] at hl
             obtain rfl := Option.some.inj hl
             have tz1 : (text.toList == [122]) = true := beq_iff_eq.2 tz
             clear hl HL hsk tx ty tz h7 he2
             go_wp2_with fail
             go_ret
             exact ⟨rfl, HB.out⟩
           · have tz1 : (text.toList == [122]) = false := beq_eq_false_iff_ne.2 tz
             rw [if_pos ⟨h7, tx, ty, tz⟩] at hl
             obtain rfl := Option.some.inj hl
             clear hl HL hsk tx ty tz h7 he2
             go_wp2_with fail
             go_ret
             exact ⟨rfl, HB.out⟩
     · have k7 : (F.kind == 7) = false := beq_eq_false_iff_ne.2 h7
       rw [if_neg (fun h => h7 h.1)] at hl
       by_cases h8 : F.kind = 8
       · have k8 : (F.kind == 8) = true := beq_iff_eq.2 h8
         rw [if_pos h8] at hl
         obtain ⟨⟨n1, n2⟩, hn, hr⟩ := Option.map_eq_some_iff.1 hl
         simp only at hr
         have HN := Aside0.mk hn
         have HR := Aside0.mk hr
         clear hl HL hsk h7 h8 hn hr he2
         go_wp2_with fail
         refine (facename_New.calls k F.id text 0 n1 n2 _ HN.out HG2.out).mono ?_
         rintro e2 w2 ⟨rfl, hb2⟩
         have HB2 := Aside0.mk (below_step HB.out hb2)
         clear hb2 HB
         by_cases hz2 : n2 = 0
         · subst hz2
           have hr := HR.out
           rw [if_pos rfl] at hr
           subst hr
           clear HR
           go_wp2_with fail
           go_ret
           exact ⟨rfl, HB2.out⟩
         · have hz3 : (n2 != 0) = true := bne_iff_ne.2 hz2
           have hr := HR.out
           rw [if_neg hz2] at hr
           subst hr
           clear HR hz2
           go_wp2_with fail
           go_ret
           exact ⟨rfl, HB2.out⟩
       · have k8 : (F.kind == 8) = false := beq_eq_false_iff_ne.2 h8
         rw [if_neg h8] at hl
         obtain rfl := Option.some.inj hl
         clear hl HL hsk h7 h8 he2
         go_wp2_with fail
         go_ret
         exact ⟨rfl, HB.out⟩
theorem sound_any (k : Nat) (f : Fd) {w : World} {P : Nat} {F : FT} {A3 A5 : Option Addr} {c3 c5 : Nat} (v3 v5 : Value) (hF : FeatAt w P F A3 c3 A5 c5) (r : Int) (hG : Env w) (h : soundOf k F f = some r) :
 Calls Tryz.prog 35 #[.agg (featCells F v3 v5), .string f.str, slotV P f] w fun e w' => e = .returned (.int .i64 r) ∧ Below w.heap.size w w' := by
 cases f
 case on => exact sound_ref k .on rfl 2 (fun _ => rfl) v3 v5 A3 c3 hF ((blk_cell hF.blk 2).trans rfl) ((blk_cell hF.blk 3).trans rfl) hF.l3 hF.r3 r hG h (by decide +kernel) rfl
 case and => exact sound_ref k .and rfl 4 (fun _ => rfl) v3 v5 A5 c5 hF ((blk_cell hF.blk 4).trans rfl) ((blk_cell hF.blk 5).trans rfl) hF.l5 hF.r5 r hG h (by decide +kernel) rfl
 case sketch => exact sound_text k .sketch rfl 6 (fun _ => rfl) v3 v5 hF r hG h (by decide +kernel)
 case amount => exact sound_text k .amount rfl 7 (fun _ => rfl) v3 v5 hF r hG h (by decide +kernel)
 case count => exact sound_text k .count rfl 8 (fun _ => rfl) v3 v5 hF r hG h (by decide +kernel)
 case x => exact sound_text k .x rfl 9 (fun _ => rfl) v3 v5 hF r hG h (by decide +kernel)
 case y => exact sound_text k .y rfl 10 (fun _ => rfl) v3 v5 hF r hG h (by decide +kernel)
 case z => exact sound_text k .z rfl 11 (fun _ => rfl) v3 v5 hF r hG h (by decide +kernel)
end Go.Proofs.YtoccbcfjbingbaaGreatDoor.X30
namespace Go.Proofs.YtoccbcfjbingbaaGreatDoor.X30
open Go Go.RowKit Go.Shelf Go.Proofs.YtoccbcfjbingbaaGreatDoorW.PrintWords Go.Proofs.YtoccbcfjbingbaaGreatDoorW.PrintLast Go.Proofs.YtoccbcfjbingbaaGreatDoorW.PrintMore
def sSide : ByteArray := ⟨#[115, 105, 100, 101]⟩
def soundAll (k : Nat) (F : FT) : List Fd → Option Int
 | [] => some 0
 | f :: l => (soundOf k F f).bind fun e => if e = 0 then soundAll k F l else some e
def extra (F : FT) (n : Nat) (f : Fd) : Bool := !memS (kAt n).2 f.str && !emptyOf F f
def checkOf (k : Nat) (F : FT) : Option Int :=
 (facename_New.f k F.id sSide 0).bind fun p => if p.2 = 0 then
  (if 1 ≤ F.kind ∧ F.kind ≤ 8 then (if allFd.any (extra F (F.kind - 1).toNat) then some 1 else soundAll k F (kindFd (F.kind - 1).toNat)) else some 11)
 else some 7
structure CkAt (w wr : World) (F : FT) (v3 v5 : Value) : Prop where
 blk : wr.heap[w.heap.size]? = some (.cells (featCells F v3 v5) 30 (0, 0))
 hb : Below w.heap.size w wr
theorem CkAt.below {w wr w' : World} {F : FT} {v3 v5 : Value} (h : CkAt w wr F v3 v5) (hb : Below wr.heap.size wr w') : CkAt w w' F v3 v5 := ⟨blk_below h.blk hb, below_step h.hb hb⟩
theorem CkAt.cells {w wr : World} {F : FT} {v3 v5 : Value} (h : CkAt w wr F v3 v5) : wr.cell? ⟨w.heap.size, 0, none⟩ = some (.string F.id) ∧ wr.cell? ⟨w.heap.size, 1, none⟩ = some (.int .i64 F.kind) ∧ wr.cell? ⟨w.heap.size, 2, none⟩ = some (.string F.onT) ∧ wr.cell? ⟨w.heap.size, 3, none⟩ = some (v3) ∧ wr.cell? ⟨w.heap.size, 4, none⟩ = some (.string F.andT) ∧ wr.cell? ⟨w.heap.size, 5, none⟩ = some (v5) ∧ wr.cell? ⟨w.heap.size, 6, none⟩ = some (.string F.sketch) ∧ wr.cell? ⟨w.heap.size, 7, none⟩ = some (.string F.amount) ∧ wr.cell? ⟨w.heap.size, 8, none⟩ = some (.string F.count) ∧ wr.cell? ⟨w.heap.size, 9, none⟩ = some (.string F.x) ∧ wr.cell? ⟨w.heap.size, 10, none⟩ = some (.string F.y) ∧ wr.cell? ⟨w.heap.size, 11, none⟩ = some (.string F.z) :=
 ⟨(blk_cell h.blk 0).trans rfl, (blk_cell h.blk 1).trans rfl, (blk_cell h.blk 2).trans rfl, (blk_cell h.blk 3).trans rfl, (blk_cell h.blk 4).trans rfl, (blk_cell h.blk 5).trans rfl, (blk_cell h.blk 6).trans rfl, (blk_cell h.blk 7).trans rfl, (blk_cell h.blk 8).trans rfl, (blk_cell h.blk 9).trans rfl, (blk_cell h.blk 10).trans rfl, (blk_cell h.blk 11).trans rfl⟩
set_option maxHeartbeats 6400000 in
set_option maxRecDepth 100000 in
theorem Check_walk (k : Nat) (F : FT) (A3 : Option Addr) (c3 : Nat) (A5 : Option Addr) (c5 : Nat) (r : Int) (w : World) (hr3 : Kd.C Kd.string w A3 F.onA.length F.onA) (hc3 : F.onA.length ≤ c3) (hr5 : Kd.C Kd.string w A5 F.andA.length F.andA) (hc5 : F.andA.length ≤ c5)
 (h : checkOf k F = some r) (hG : Env w) :
 Calls Tryz.prog 19 #[.agg (featCells F (.slice A3 F.onA.length c3) (.slice A5 F.andA.length c5))] w fun e w' => e = .returned (.int .i64 r) ∧ Below w.heap.size w w' := by
 unfold checkOf at h
 obtain ⟨⟨n1, n2⟩, hn, h⟩ := Option.bind_eq_some_iff.1 h
 simp only at h
 obtain ⟨kk, hkk⟩ : ∃ kk, kk = F.kind := ⟨_, rfl⟩
 have HN := Aside0.mk hn
 have HH := Aside0.mk h
 have HR3 := Aside0.mk hr3
 have HR5 := Aside0.mk hr5
 have HKK := Aside0.mk hkk
 have HG := Aside0.mk hG
 have HF : ∀ {wr : World}, CkAt w wr F (.slice A3 F.onA.length c3) (.slice A5 F.andA.length c5) → FeatAt wr w.heap.size F A3 c3 A5 c5 := fun hk => ⟨hk.blk, hc3, Kd.C_below HR3.out hk.hb, hc5, Kd.C_below HR5.out hk.hb⟩
 have HFF := Aside0.mk @HF
 have HK0 := Aside0.mk (CkAt.mk (w := w) (F := F) (blk_new w (.cells (featCells F (.slice A3 F.onA.length c3) (.slice A5 F.andA.length c5)) 30)) (below_alloc (Below.refl _ _) _))
 have x0 : (w.alloc (.cells (featCells F (.slice A3 F.onA.length c3) (.slice A5 F.andA.length c5)) 30)).cell? ⟨w.heap.size, 0, none⟩ = some (.string F.id) := (blk_cell HK0.out.blk 0).trans rfl
 have hG1 := hG.below HK0.out.hb
 clear hn h hr3 hr5 hkk HF hc3 hc5 hG
 go_enter Tryz.func19, Tryz.ntmps19
 go_wp2_with fail
 refine (facename_New.calls k F.id sSide 0 n1 n2 _ HN.out hG1).mono ?_
 rintro e1 w1 ⟨rfl, hb1⟩
 have HK1 := Aside0.mk (HK0.out.below hb1)
 clear hb1 x0 HK0 hG1
 by_cases hz : n2 = 0
 · subst hz
   have hh := HH.out
   rw [if_pos rfl] at hh
   have y1 : w1.cell? ⟨w.heap.size, 1, none⟩ = some (.int .i64 kk) := (blk_cell HK1.out.blk 1).trans (by rw [HKK.out]; rfl)
   have hg1 := HG.out.below HK1.out.hb
   by_cases hk : 1 ≤ F.kind ∧ F.kind ≤ 8
   · rw [if_pos hk] at hh
     obtain ⟨n, hkn⟩ : ∃ n : Nat, (F.kind - 1).toNat = n := ⟨_, rfl⟩
     rw [hkn] at hh
     have hn8 : n < 8 := by omega
     have hkk2 : kk = (n : Int) + 1 := by rw [HKK.out]; omega
     have HL := Aside0.mk hh
     subst hkk2
     clear hh hk hkn HH
     go_wp2_with fail
     refine (fields_yes n hn8 w w1 HG.out HK1.out.hb).mono ?_
     rintro e2 w2 ⟨Ao, co, rfl, hlo, hCo, rfl⟩
     have HCO := Aside0.mk hCo
     have HLO := Aside0.mk hlo
     clear hCo hlo y1 hg1
     go_wp2_with fail
     refine (places_any ⟨w.heap.size, 0, none⟩ _).mono ?_
     rintro e3 w3 ⟨rfl, rfl⟩
     go_wp2_with fail
     obtain ⟨B, hB⟩ : ∃ B, B = w2.heap.size := ⟨_, rfl⟩
     have HCL1 := Aside0.mk (blk_alloc (blk_new w2 (.cells #[.pointer (some ⟨w.heap.size, 0, none⟩)] 53)) (.cells #[.string ⟨#[111, 110]⟩, .string ⟨#[97, 110, 100]⟩, .string ⟨#[115, 107, 101, 116, 99, 104]⟩, .string ⟨#[97, 109, 111, 117, 110, 116]⟩, .string ⟨#[99, 111, 117, 110, 116]⟩, .string ⟨#[120]⟩, .string ⟨#[121]⟩, .string ⟨#[122]⟩] 9))
     have HLT1 := blk_new (w2.alloc (.cells #[.pointer (some ⟨w.heap.size, 0, none⟩)] 53)) (.cells #[.string ⟨#[111, 110]⟩, .string ⟨#[97, 110, 100]⟩, .string ⟨#[115, 107, 101, 116, 99, 104]⟩, .string ⟨#[97, 109, 111, 117, 110, 116]⟩, .string ⟨#[99, 111, 117, 110, 116]⟩, .string ⟨#[120]⟩, .string ⟨#[121]⟩, .string ⟨#[122]⟩] 9)
     rw [show (w2.alloc (.cells #[.pointer (some ⟨w.heap.size, 0, none⟩)] 53)).heap.size = w2.heap.size + 1 by simp] at HLT1
     have HLT2 := Aside0.mk HLT1
     have HK2 := Aside0.mk (HK1.out.below (below_alloc (below_alloc (Below.refl _ _) (.cells #[.pointer (some ⟨w.heap.size, 0, none⟩)] 53)) (.cells #[.string ⟨#[111, 110]⟩, .string ⟨#[97, 110, 100]⟩, .string ⟨#[115, 107, 101, 116, 99, 104]⟩, .string ⟨#[97, 109, 111, 117, 110, 116]⟩, .string ⟨#[99, 111, 117, 110, 116]⟩, .string ⟨#[120]⟩, .string ⟨#[121]⟩, .string ⟨#[122]⟩] 9)))
     rw [← hB] at HCL1 HLT2
     rw [← hB]
     clear HLT1 hB HK1
     go_loopw [32] (fun i wr => ∃ m : Nat, i = .int .i64 m ∧ m ≤ 8 ∧ Aside0 (CkAt w wr F (.slice A3 F.onA.length c3) (.slice A5 F.andA.length c5)) ∧ Aside0 (wr.heap[B]? = some (.cells #[.pointer (some ⟨w.heap.size, 0, none⟩)] 53 (0, 0))) ∧ Aside0 (wr.heap[B + 1]? = some (.cells (allFd.map fun f => Value.string f.str).toArray 9 (0, 0))) ∧ Aside0 (∀ (j : Nat) f, j < m → allFd[j]? = some f → extra F n f = false))
      (fun i _ => 8 - (intOf i).toNat)
     case atStart => exact ⟨0, rfl, Nat.zero_le _, HK2, HCL1, HLT2, ⟨fun j f hj => absurd hj (Nat.not_lt_zero j)⟩⟩
     case round =>
      obtain ⟨m, rfl, hm, HK, HCL, HLT, HNO⟩ := hrel
      clear HCL1 HLT2 HK2
      by_cases hlt : m < 8
      · obtain ⟨f, hf⟩ : ∃ f, allFd[m]? = some f := ⟨_, List.getElem?_eq_getElem hlt⟩
        have hx : wr.cell? ⟨B + 1, m, none⟩ = some (.string f.str) := (blk_cell HLT.out m).trans (by simp [hf])
        have hspec := contains_spec (kAt n).2 f.str HCO.out.2.1 ((kAt n).2.length + 1) (Nat.lt_succ_self _)
        have hcon := slices_Contains_string_string.calls _ Ao co (kAt n).2 f.str _ wr (Kd.C_below HCO.out HK.out.hb) HLO.out hspec
        have HF1 := Aside0.mk hf
        clear hspec hf
        cases hmem : memS (kAt n).2 f.str with
        | true =>
         rw [hmem] at hcon
         have HNO1 : Aside0 (∀ (j : Nat) f, j < m + 1 → allFd[j]? = some f → extra F n f = false) := ⟨fun j g hj hg => by
          rcases Nat.lt_or_ge j m with h | h
          · exact HNO.out j g h hg
          · obtain rfl : j = m := by omega
            obtain rfl := Option.some.inj (HF1.out.symm.trans hg)
            unfold extra; rw [hmem]; rfl⟩
         have HCON := Aside0.mk hcon
         clear hmem hcon
         go_wp2_with fail
         refine HCON.out.mono ?_
         rintro e4 w4 ⟨rfl, hd⟩
         have HK3 := Aside0.mk (HK.out.below hd.below)
         have HCL3 := Aside0.mk (blk_below HCL.out hd.below)
         have HLT3 := Aside0.mk (blk_below HLT.out hd.below)
         clear hd HCON hx
         go_wp2_with fail
         go_roundw
         case rel => exact ⟨m + 1, by go_num, by omega, HK3, HCL3, HLT3, HNO1⟩
         case measure => simp [intOf]; omega
        | false =>
         rw [hmem] at hcon
         have HCON := Aside0.mk hcon
         have HMEM := Aside0.mk hmem
         clear hmem hcon
         go_wp2_with fail
         refine HCON.out.mono ?_
         rintro e4 w4 ⟨rfl, hd⟩
         have HK3 := Aside0.mk (HK.out.below hd.below)
         have HCL3 := Aside0.mk (blk_below HCL.out hd.below)
         have HLT3 := Aside0.mk (blk_below HLT.out hd.below)
         clear hd HCON hx
         go_wp2_with fail
         refine (places1_any f B w.heap.size _ ((blk_cell HCL3.out 0).trans rfl)).mono ?_
         rintro e5 w5 ⟨rfl, hb5⟩
         have HK5 := Aside0.mk (HK3.out.below hb5)
         have HCL5 := Aside0.mk (blk_below HCL3.out hb5)
         have HLT5 := Aside0.mk (blk_below HLT3.out hb5)
         clear hb5 HK3 HCL3 HLT3 HK HCL HLT
         go_wp2_with fail
         refine (empty_any f (HFF.out HK5.out)).mono ?_
         rintro e6 w6 ⟨rfl, hb6⟩
         have HK6 := Aside0.mk (HK5.out.below hb6)
         have HCL6 := Aside0.mk (blk_below HCL5.out hb6)
         have HLT6 := Aside0.mk (blk_below HLT5.out hb6)
         clear hb6 HK5 HCL5 HLT5
         cases hem : emptyOf F f with
         | true =>
          have HNO1 : Aside0 (∀ (j : Nat) f, j < m + 1 → allFd[j]? = some f → extra F n f = false) := ⟨fun j g hj hg => by
           rcases Nat.lt_or_ge j m with h | h
           · exact HNO.out j g h hg
           · obtain rfl : j = m := by omega
             obtain rfl := Option.some.inj (HF1.out.symm.trans hg)
             unfold extra; rw [hem]; simp⟩
          clear hem
          go_wp2_with fail
          go_roundw
          case rel => exact ⟨m + 1, by go_num, by omega, HK6, HCL6, HLT6, HNO1⟩
          case measure => simp [intOf]; omega
         | false =>
          have hany : allFd.any (extra F n) = true := by
           rw [List.any_eq_true]
           exact ⟨f, List.mem_of_getElem? HF1.out, by unfold extra; rw [hem, HMEM.out]; rfl⟩
          have hl := HL.out
          rw [if_pos hany] at hl
          obtain rfl := Option.some.inj hl
          clear hem hany hl HL
          go_wp2_with fail
          go_ret
          exact ⟨rfl, HK6.out.hb⟩
      · obtain rfl : m = 8 := by omega
        have hany : ¬ (allFd.any (extra F n) = true) := by
         rw [List.any_eq_true]
         rintro ⟨f, hf, he⟩
         obtain ⟨j, hj, rfl⟩ := List.getElem_of_mem hf
         rw [HNO.out j _ hj (List.getElem?_eq_getElem hj)] at he
         exact Bool.false_ne_true he
        have hl := HL.out
        rw [if_neg hany] at hl
        have HL2 := Aside0.mk hl
        clear hl hany HL HNO
        go_wp2_with fail
        have hks := kindFd_str n hn8
        obtain ⟨hp0, hp4⟩ := kindFd_pos n hn8
        have hlen : (kAt n).2.length = (kindFd n).length := by rw [hks, List.length_map]
        obtain ⟨b, o, rfl, hblt, hown⟩ := C_string_cells HCO.out (by rw [hlen]; exact hp0)
        have HOWN : Aside0 (∀ (j : Nat) f, (kindFd n)[j]? = some f → w.cell? ⟨b, o + j, none⟩ = some (.string f.str)) := ⟨fun j f hj => hown j f.str (by rw [hks, List.getElem?_map, hj]; rfl)⟩
        rw [hlen]
        clear hks hown hblt HLT HCO hlen hm hlt
        go_loopw [50] (fun i wr => ∃ m : Nat, i = .int .i64 m ∧ m ≤ (kindFd n).length ∧ Aside0 (CkAt w wr F (.slice A3 F.onA.length c3) (.slice A5 F.andA.length c5)) ∧ Aside0 (wr.heap[B]? = some (.cells #[.pointer (some ⟨w.heap.size, 0, none⟩)] 53 (0, 0))) ∧ Aside0 (soundAll k F ((kindFd n).drop m) = some r))
         (fun i _ => 8 - (intOf i).toNat)
        case atStart => exact ⟨0, rfl, Nat.zero_le _, HK, HCL, HL2⟩
        case round =>
         obtain ⟨m, rfl, hm, HK, HCL, HS⟩ := hrel
         by_cases hlt : m < (kindFd n).length
         · obtain ⟨f, hf⟩ : ∃ f, (kindFd n)[m]? = some f := ⟨_, List.getElem?_eq_getElem hlt⟩
           have hx := (HK.out.hb.cell (p := ⟨b, o + m, none⟩) (World.block_lt_of_cell? _ _ (HOWN.out m f hf))).trans (HOWN.out m f hf)
           have hs := HS.out
           rw [List.drop_eq_getElem_cons hlt, show (kindFd n)[m] = f from by rw [List.getElem?_eq_getElem hlt] at hf; exact Option.some.inj hf, soundAll] at hs
           obtain ⟨e, he, hs⟩ := Option.bind_eq_some_iff.1 hs
           have HE := Aside0.mk he
           have HS2 := Aside0.mk hs
           obtain ⟨q0, q1, q2, q3, q4, q5, q6, q7, q8, q9, q10, q11⟩ := HK.out.cells
           clear hf he hs HS
           go_wp2_with fail
           have HKd := Aside0.mk (HK.out.below (pw_below_drewN (Below.refl wr.heap.size wr) 1))
           have HCd := Aside0.mk (blk_below HCL.out (pw_below_drewN (Below.refl wr.heap.size wr) 1))
           clear HK HCL
           go_region_with (first | (go_at_call 39; refine (places1_any f B w.heap.size _ ((blk_cell HCd.out 0).trans rfl)).mono ?_; rintro e5 w5 ⟨rfl, hb5⟩; have HK5 := Aside0.mk (HKd.out.below hb5); have HC5 := Aside0.mk (blk_below HCd.out hb5); clear hb5; obtain ⟨s0, s1, s2, s3, s4, s5, s6, s7, s8, s9, s10, s11⟩ := HK5.out.cells) | (go_at_call 35; refine (sound_any k f (.slice A3 F.onA.length c3) (.slice A5 F.andA.length c5) (HFF.out HK5.out) e (HG.out.below HK5.out.hb) HE.out).mono ?_; rintro e6 w6 ⟨rfl, hb6⟩; have HK6 := Aside0.mk (HK5.out.below hb6); have HC6 := Aside0.mk (blk_below HC5.out hb6); clear hb6))
           all_goals
            have hss := HS2.out
            clear HS2 q0 q1 q2 q3 q4 q5 q6 q7 q8 q9 q10 q11 hx HKd HCd HE
            by_cases hz : e = 0
            · subst hz
              rw [if_pos rfl] at hss
              have HS3 := Aside0.mk hss
              clear hss
              go_wp2_with fail
              go_roundw
              case rel => first | exact ⟨m + 1, by go_num, by omega, HK6, HC6, HS3⟩ | ((repeat apply Exists.intro); exact ⟨⟨m + 1, by go_num, by omega, HK6, HC6, HS3⟩, rfl⟩)
              case measure => simp [intOf]; omega
            · have hz2 : (e != 0) = true := bne_iff_ne.2 hz
              rw [if_neg hz] at hss
              obtain rfl := Option.some.inj hss
              clear hss hz
              go_wp2_with fail
              go_ret
              exact ⟨rfl, HK6.out.hb⟩
         · have hs := HS.out
           rw [List.drop_eq_nil_of_le (by omega), soundAll] at hs
           obtain rfl := Option.some.inj hs
           clear hs HS
           go_wp2_with fail
           go_ret
           exact ⟨rfl, HK.out.hb⟩
   · rw [if_neg hk] at hh
     obtain rfl := Option.some.inj hh
     have hk2 : ¬ (1 ≤ kk ∧ kk ≤ 8) := by rw [HKK.out]; exact hk
     clear hh hk HH
     go_wp2_with fail
     refine (fields_no kk hk2 _ hg1).mono ?_
     rintro e2 w2 ⟨rfl, rfl⟩
     go_wp2_with fail
     go_ret
     exact ⟨rfl, HK1.out.hb⟩
 · have hh := HH.out
   rw [if_neg hz] at hh
   obtain rfl := Option.some.inj hh
   have hz2 : (n2 != 0) = true := bne_iff_ne.2 hz
   clear hh hz HH
   go_wp2_with fail
   go_ret
   exact ⟨rfl, HK1.out.hb⟩
end Go.Proofs.YtoccbcfjbingbaaGreatDoor.X30
