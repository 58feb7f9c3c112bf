/- An argument of type api.Feature, as the walks take it. The reference implementation's small functions of chapter 30: which fields a kind has, the text and the reference of a field. What ref30.Check asks of its helpers, in plain terms. ref30.Check, walked: what it answers is what feature.Check answers (checkOf). FeatureValidity, walked: the reference's Fields and Check beside the program's. -/
import Derived.Test.YtoccbcfjbingbaaGreatDoorP30b
import Derived.Test.YtoccbcfjbingbaaGreatDoorOps
import Derived.Test.YtoccbcfjbingbaaGreatDoorP30g
import Derived.Test.YtoccbcfjbingbaaGreatDoorX30x11
import Derived.Test.YtoccbcfjbingbaaGreatDoorX30x12
import Derived.Test.YtoccbcfjbingbaaGreatDoorP27all
import Derived.Deep.DeepCutAuto
import Derived.Test.YtoccbcfjbingbaaGreatDoorFeatE2
import Derived.Test.YtoccbcfjbingbaaGreatDoorX30x13
import Derived.Test.YtoccbcfjbingbaaGreatDoorX30x16
import Derived.Test.YtoccbcfjbingbaaGreatDoorFeatG
import Derived.Deep.RegionHeld3
import Derived.Test.YtoccbcfjbingbaaGreatDoorX30x20
import Derived.Test.YtoccbcfjbingbaaGreatDoorX30x18
namespace Go.Proofs.YtoccbcfjbingbaaGreatDoor.X30
open Go hiding Fd
open Go.RowKit Go.Shelf Go.Proofs.YtoccbcfjbingbaaGreatDoorW.PrintWords Go.Proofs.YtoccbcfjbingbaaGreatDoorW.PrintLast Go.Proofs.YtoccbcfjbingbaaGreatDoorW.PrintMore Go.Proofs.YtoccbcfjbingbaaGreatDoor.P30
def ftOf (y : S30) : FT := ⟨y.f0, y.f1, y.f2.f0, y.f2.f1, y.f3.f0, y.f3.f1, y.f4, y.f5, y.f6, y.f7.f0, y.f7.f1, y.f7.f2⟩
end Go.Proofs.YtoccbcfjbingbaaGreatDoor.X30

namespace Go.Proofs.YtoccbcfjbingbaaGreatDoor.X30
open Go hiding Fd
open Go.RowKit Go.Shelf Go.Lib Go.Proofs.YtoccbcfjbingbaaGreatDoorW.PrintWords Go.Proofs.YtoccbcfjbingbaaGreatDoorW.PrintLast Go.Proofs.YtoccbcfjbingbaaGreatDoorW.PrintMore Go.Proofs.YtoccbcfjbingbaaGreatDoor.P30 Go.Proofs.YtoccbcfjbingbaaGreatDoor.P27 Go.Proofs.Facename
set_option linter.unusedVariables false
theorem among_f (l : List ByteArray) (s : ByteArray) (hl : l.length < 4611686018427387904) : voussoirref30_among.f (l.length + 1) l s = some (memS l s) := by
 have key : ∀ (m i : Nat), i + m = l.length → ∀ k, m < k → voussoirref30_among.l0 k l s (i : Int) = some (memS (l.drop i) s) := by
  intro m
  induction m with
  | zero =>
   intro i hi k hk
   obtain ⟨k, rfl⟩ : ∃ n, k = n + 1 := ⟨k - 1, by omega⟩
   simp only [voussoirref30_among.l0]
   rw [if_neg (by omega), List.drop_eq_nil_of_le (by omega)]; rfl
  | succ m ih =>
   intro i hi k hk
   obtain ⟨k, rfl⟩ : ∃ n, k = n + 1 := ⟨k - 1, by omega⟩
   have hlt : i < l.length := by omega
   have hrd : rdOf ByteArray.empty l (i : Int) = l[i] := by unfold rdOf; rw [Int.toNat_natCast, List.getD_eq_getElem?_getD, List.getElem?_eq_getElem hlt]; rfl
   simp only [voussoirref30_among.l0]
   rw [if_pos (by omega), if_pos (by omega), hrd, show wrap64 ((i : Int) + 1) = ((i + 1 : Nat) : Int) by unfold wrap64; omega, ih (i + 1) (by omega) k (by omega), List.drop_eq_getElem_cons hlt]
   unfold memS
   rw [List.any_cons]
   by_cases hc : l[i].toList = s.toList
   · rw [if_pos hc, hc]; simp
   · rw [if_neg hc]
     have : (s.toList == l[i].toList) = false := by rw [beq_eq_false_iff_ne]; exact fun e => hc e.symm
     rw [this]; rfl
 exact key l.length 0 (by omega) _ (by omega)
theorem has_f (n : Nat) (hn : n < 8) : voussoirref30_has.f 1 ((n : Int) + 1) = some (kAt n).2 := by
 match n, hn with
 | 0, _ | 1, _ | 2, _ | 3, _ | 4, _ | 5, _ | 6, _ | 7, _ => rfl
set_option maxHeartbeats 1600000 in
theorem has_no (k : Int) (hk : ¬ (1 ≤ k ∧ k ≤ 8)) (w : World) : Calls Tryz.prog 27 #[.int .i64 k] w fun e w' => e = .returned (.slice none 0 0) ∧ Below w.heap.size w w' := by
 have h1 : (k == 1) = false := by rw [beq_eq_false_iff_ne]; omega
 have h2 : (k == 2) = false := by rw [beq_eq_false_iff_ne]; omega
 have h3 : (k == 3) = false := by rw [beq_eq_false_iff_ne]; omega
 have h4 : (k == 4) = false := by rw [beq_eq_false_iff_ne]; omega
 have h5 : (k == 5) = false := by rw [beq_eq_false_iff_ne]; omega
 have h6 : (k == 6) = false := by rw [beq_eq_false_iff_ne]; omega
 have h7 : (k == 7) = false := by rw [beq_eq_false_iff_ne]; omega
 have h8 : (k == 8) = false := by rw [beq_eq_false_iff_ne]; omega
 clear hk
 go_enter Tryz.func27, Tryz.ntmps27
 go_wp2_with fail
 go_ret
 exact ⟨rfl, by repeat (first | exact Below.refl _ _ | apply below_drew | apply below_alloc)⟩
theorem text_f (F : FT) (f : X30.Fd) (h : FT.wt F ≤ 10000) : ∃ t k, textOf F f = some t ∧ voussoirref30_text.f k F.id F.kind F.onT F.onA F.andT F.andA F.sketch F.amount F.count F.x F.y F.z f.str = some t := by
 have h3 : ∃ r, Ev (fun k => voussoirref28_Text.f k F.onT F.onA) r ∧ resolve_Format.f F.onT F.onA = some r := text28 _ _ (by unfold FT.wt at h; omega)
 have h5 : ∃ r, Ev (fun k => voussoirref28_Text.f k F.andT F.andA) r ∧ resolve_Format.f F.andT F.andA = some r := text28 _ _ (by unfold FT.wt at h; omega)
 cases f
 case on =>
  obtain ⟨r, ⟨K, e⟩, e2⟩ := h3
  refine ⟨r, K, e2, ?_⟩
  have := e K (Nat.le_refl _)
  unfold voussoirref30_text.f
  rw [if_neg (by decide +kernel), if_neg (by decide +kernel), if_neg (by decide +kernel), if_neg (by decide +kernel), if_neg (by decide +kernel), if_neg (by decide +kernel), if_pos (by decide +kernel), show voussoirref28_Text.f K F.onT F.onA = some r from this, Option.bind_some]
 case and =>
  obtain ⟨r, ⟨K, e⟩, e2⟩ := h5
  refine ⟨r, K, e2, ?_⟩
  have := e K (Nat.le_refl _)
  unfold voussoirref30_text.f
  rw [if_neg (by decide +kernel), if_neg (by decide +kernel), if_neg (by decide +kernel), if_neg (by decide +kernel), if_neg (by decide +kernel), if_neg (by decide +kernel), if_neg (by decide +kernel), show voussoirref28_Text.f K F.andT F.andA = some r from this, Option.bind_some]
 case sketch => exact ⟨F.sketch, 0, rfl, by unfold voussoirref30_text.f; rw [if_pos (by decide +kernel)]⟩
 case amount => exact ⟨F.amount, 0, rfl, by unfold voussoirref30_text.f; rw [if_neg (by decide +kernel), if_pos (by decide +kernel)]⟩
 case count => exact ⟨F.count, 0, rfl, by unfold voussoirref30_text.f; rw [if_neg (by decide +kernel), if_neg (by decide +kernel), if_pos (by decide +kernel)]⟩
 case x => exact ⟨F.x, 0, rfl, by unfold voussoirref30_text.f; rw [if_neg (by decide +kernel), if_neg (by decide +kernel), if_neg (by decide +kernel), if_pos (by decide +kernel)]⟩
 case y => exact ⟨F.y, 0, rfl, by unfold voussoirref30_text.f; rw [if_neg (by decide +kernel), if_neg (by decide +kernel), if_neg (by decide +kernel), if_neg (by decide +kernel), if_pos (by decide +kernel)]⟩
 case z => exact ⟨F.z, 0, rfl, by unfold voussoirref30_text.f; rw [if_neg (by decide +kernel), if_neg (by decide +kernel), if_neg (by decide +kernel), if_neg (by decide +kernel), if_neg (by decide +kernel), if_pos (by decide +kernel)]⟩
theorem refText_any (F : FT) (f : X30.Fd) (t : ByteArray) (A3 : Option Addr) (c3 : Nat) (A5 : Option Addr) (c5 : Nat) (w : World) (hw : FT.wt F ≤ 10000) (ht : textOf F f = some t)
 (hr3 : Kd.C Kd.string w A3 F.onA.length F.onA) (hc3 : F.onA.length ≤ c3) (hr5 : Kd.C Kd.string w A5 F.andA.length F.andA) (hc5 : F.andA.length ≤ c5) :
 Calls Tryz.prog 32 #[.agg #[.string F.id, .int .i64 F.kind, .string F.onT, .slice A3 F.onA.length c3, .string F.andT, .slice A5 F.andA.length c5, .string F.sketch, .string F.amount, .string F.count, .string F.x, .string F.y, .string F.z], .string f.str] w fun e w' => e = .returned (.string t) ∧ Below w.heap.size w w' := by
 obtain ⟨t', k, h1, h2⟩ := text_f F f hw
 obtain rfl : t = t' := Option.some.inj (ht.symm.trans h1)
 exact voussoirref30_text.calls k F.id F.kind F.onT A3 c3 F.onA F.andT A5 c5 F.andA F.sketch F.amount F.count F.x F.y F.z f.str t w hr3 hc3 hr5 hc5 h2
set_option maxHeartbeats 1600000 in
theorem refRef_any (F : FT) (f : X30.Fd) (hf : f.isRef = true) (A3 : Option Addr) (c3 : Nat) (A5 : Option Addr) (c5 : Nat) (w : World) :
 Calls Tryz.prog 37 #[.agg #[.string F.id, .int .i64 F.kind, .string F.onT, .slice A3 F.onA.length c3, .string F.andT, .slice A5 F.andA.length c5, .string F.sketch, .string F.amount, .string F.count, .string F.x, .string F.y, .string F.z], .string f.str] w fun e w' => e = .returned (.agg #[.string (F.refT f), match f with | .on => .slice A3 F.onA.length c3 | _ => .slice A5 F.andA.length c5]) ∧ Below w.heap.size w w' := by
 cases f <;> first | (cases hf; done) | skip
 case on =>
  have hs : (Fd.on.str.toList == [111, 110]) = true := by decide +kernel
  have hy := blk_new (w.alloc (.cells #[.string F.id, .int .i64 F.kind, .string F.onT, .slice A3 F.onA.length c3, .string F.andT, .slice A5 F.andA.length c5, .string F.sketch, .string F.amount, .string F.count, .string F.x, .string F.y, .string F.z] 30)) (.cells #[.string F.onT, .slice A3 F.onA.length c3] 27)
  rw [show (w.alloc (.cells #[.string F.id, .int .i64 F.kind, .string F.onT, .slice A3 F.onA.length c3, .string F.andT, .slice A5 F.andA.length c5, .string F.sketch, .string F.amount, .string F.count, .string F.x, .string F.y, .string F.z] 30)).heap.size = w.heap.size + 1 by simp] at hy
  have HY := Aside0.mk hy
  clear hy
  go_enter Tryz.func37, Tryz.ntmps37
  go_wp2_with fail
  refine bodyPost_ret (results_cell_row rfl _ _ (w.heap.size + 1) 27 #[.string F.onT, .slice A3 F.onA.length c3] (0, 0) _ rfl HY.out Tryz.underlying27 rfl (by kernel_rfl)) rfl ?_
  exact ⟨rfl, by repeat (first | exact Below.refl _ _ | apply below_drew | apply below_alloc | refine below_set ?_ (by simp))⟩
 case and =>
  have hs : (Fd.and.str.toList == [111, 110]) = false := by decide +kernel
  have hy := blk_new (w.alloc (.cells #[.string F.id, .int .i64 F.kind, .string F.onT, .slice A3 F.onA.length c3, .string F.andT, .slice A5 F.andA.length c5, .string F.sketch, .string F.amount, .string F.count, .string F.x, .string F.y, .string F.z] 30)) (.cells #[.string F.andT, .slice A5 F.andA.length c5] 27)
  rw [show (w.alloc (.cells #[.string F.id, .int .i64 F.kind, .string F.onT, .slice A3 F.onA.length c3, .string F.andT, .slice A5 F.andA.length c5, .string F.sketch, .string F.amount, .string F.count, .string F.x, .string F.y, .string F.z] 30)).heap.size = w.heap.size + 1 by simp] at hy
  have HY := Aside0.mk hy
  clear hy
  go_enter Tryz.func37, Tryz.ntmps37
  go_wp2_with fail
  refine bodyPost_ret (results_cell_row rfl _ _ (w.heap.size + 1) 27 #[.string F.andT, .slice A5 F.andA.length c5] (0, 0) _ rfl HY.out Tryz.underlying27 rfl (by kernel_rfl)) rfl ?_
  exact ⟨rfl, by repeat (first | exact Below.refl _ _ | apply below_drew | apply below_alloc | refine below_set ?_ (by simp))⟩
end Go.Proofs.YtoccbcfjbingbaaGreatDoor.X30

namespace Go.Proofs.YtoccbcfjbingbaaGreatDoor.X30
open Go hiding Fd
open Go.RowKit Go.Shelf Go.Lib Go.Proofs.YtoccbcfjbingbaaGreatDoorW.PrintWords Go.Proofs.YtoccbcfjbingbaaGreatDoorW.PrintLast Go.Proofs.YtoccbcfjbingbaaGreatDoorW.PrintMore Go.Proofs.YtoccbcfjbingbaaGreatDoor.P30 Go.Proofs.YtoccbcfjbingbaaGreatDoor.P27 Go.Proofs.Facename
set_option linter.unusedVariables false
theorem ev_one {α : Type} {g : Nat → Option α} {r s : α} (h : Ev g r) (k : Ev g s) : r = s := by
 obtain ⟨K, h⟩ := h
 obtain ⟨L, k⟩ := k
 have a := h (K + L) (by omega)
 have b := k (K + L) (by omega)
 exact Option.some.inj (a.symm.trans b)
theorem make_of_new (k : Nat) (a b : ByteArray) (n1 : ByteArray) (n2 : Int) (ha : a.size ≤ 100000) (hb : b.size ≤ 100000) (h : facename_New.f k a b 0 = some (n1, n2)) : ∃ k', voussoirref27_Make.f k' a b 0 = some (n1, n2) := by
 have e1 : Ev (fun k => facename_New.f k a b 0) (n1, n2) := Ev.of (fun k => facename_New.mono _ _ _ k) h
 have e := ev_one e1 (new_ev a b 0 ha hb)
 obtain ⟨k', hk⟩ := (make_ev a b 0 ha hb).rounds
 exact ⟨k', by rw [hk, ← e]⟩
theorem ref_of_parse (k : Nat) (s : ByteArray) (r : ByteArray × List ByteArray × Bool) (hs : s.size ≤ 1000000) (h : resolve_Parse.f k s = some r) : ∃ k', voussoirref28_Parse.f k' s = some r := by
 obtain ⟨r', e1, e2⟩ := parseRef_both s hs
 have e := ev_one (Ev.of (fun k => resolve_Parse.mono s k) h) e1
 subst e
 exact e2.rounds
theorem sameRef_l0' (t t' : ByteArray) (l m : List ByteArray) (hl : l.length ≤ 9223372036854775807) (hlm : l.length = m.length) : ∀ (n i : Nat), i + n = l.length → ∀ k, n < k → voussoirref30_SameRef.l0 k (i : Int) t l t' m = some (decide (l.drop i = m.drop i)) := by
 intro n
 induction n with
 | zero =>
  intro i hi k hk
  obtain ⟨k, rfl⟩ : ∃ n, k = n + 1 := ⟨k - 1, by omega⟩
  simp only [voussoirref30_SameRef.l0]
  rw [if_neg (by omega), List.drop_eq_nil_of_le (by omega), List.drop_eq_nil_of_le (by omega)]; rfl
 | succ n ih =>
  intro i hi k hk
  obtain ⟨k, rfl⟩ : ∃ n, k = n + 1 := ⟨k - 1, by omega⟩
  have hlt : i < l.length := by omega
  have hlt' : i < m.length := by omega
  have hrd : rdOf ByteArray.empty l (i : Int) = l[i] := by unfold rdOf; rw [Int.toNat_natCast, List.getD_eq_getElem?_getD, List.getElem?_eq_getElem hlt]; rfl
  have hrd' : rdOf ByteArray.empty m (i : Int) = m[i] := by unfold rdOf; rw [Int.toNat_natCast, List.getD_eq_getElem?_getD, List.getElem?_eq_getElem hlt']; rfl
  simp only [voussoirref30_SameRef.l0]
  have hdl : l.drop i = l[i] :: l.drop (i + 1) := List.drop_eq_getElem_cons hlt
  have hdm : m.drop i = m[i] :: m.drop (i + 1) := List.drop_eq_getElem_cons hlt'
  rw [if_pos (by omega), if_pos (by omega), if_pos (by omega), hrd, hrd', hdl, hdm]
  clear hrd hrd' hdl hdm
  generalize l[i] = x, m[i] = y
  by_cases hc : x.toList = y.toList
  · have hw : wrap64 ((i : Int) + 1) = ((i + 1 : Nat) : Int) := by unfold wrap64; omega
    rw [if_pos hc, hw, ih (i + 1) (by omega) k (by omega), str_ext' hc]
    simp only [List.cons.injEq, true_and]
  · rw [if_neg hc]
    have hne : ¬ (x :: l.drop (i + 1) = y :: m.drop (i + 1)) := fun e => hc (by rw [(List.cons.inj e).1])
    rw [decide_eq_false hne]
theorem sameRef_f' (t t' : ByteArray) (l m : List ByteArray) (hl : l.length ≤ 9223372036854775807) (hm : m.length ≤ 9223372036854775807) : voussoirref30_SameRef.f (l.length + 2) t l t' m = some (decide (t = t') && decide (l = m)) := by
 unfold voussoirref30_SameRef.f
 by_cases ht : t.toList = t'.toList
 · rw [if_pos ht]
   obtain rfl := str_ext' ht
   by_cases hn : l.length = m.length
   · have : ((l.length : Int) != (m.length : Int)) = false := by rw [hn]; exact bne_self_eq_false _
     rw [this]
     simp only [voussoirref30_SameRef.j0]
     rw [if_neg Bool.false_ne_true]
     have := sameRef_l0' t t l m hl hn l.length 0 (by omega) (l.length + 1) (by omega)
     rw [List.drop_zero, List.drop_zero] at this
     rw [show ((0 : Nat) : Int) = 0 from rfl] at this
     rw [this]; simp
   · have : ((l.length : Int) != (m.length : Int)) = true := by rw [bne_iff_ne]; omega
     rw [this]
     simp only [voussoirref30_SameRef.j0]
     have hne : l ≠ m := fun e => hn (by rw [e])
     simp [hne]
 · rw [if_neg ht]
   have hne : t ≠ t' := fun e => ht (by rw [e])
   simp only [voussoirref30_SameRef.j0]
   simp [hne]
end Go.Proofs.YtoccbcfjbingbaaGreatDoor.X30

namespace Go.Proofs.YtoccbcfjbingbaaGreatDoor.X30
open Go hiding Fd
open Go.RowKit Go.Shelf Go.Lib Go.Proofs.YtoccbcfjbingbaaGreatDoorW.PrintWords Go.Proofs.YtoccbcfjbingbaaGreatDoorW.PrintLast Go.Proofs.YtoccbcfjbingbaaGreatDoorW.PrintMore Go.Proofs.YtoccbcfjbingbaaGreatDoor.P30 Go.Proofs.YtoccbcfjbingbaaGreatDoor.P27 Go.Proofs.Facename
set_option linter.unusedVariables false
set_option linter.unusedSimpArgs false
def fA (f : X30.Fd) (A3 A5 : Option Addr) : Option Addr := match f with | .on => A3 | _ => A5
def fC (f : X30.Fd) (c3 c5 : Nat) : Nat := match f with | .on => c3 | _ => c5
theorem refRef_any' (F : FT) (f : X30.Fd) (hf : f.isRef = true) (A3 : Option Addr) (c3 : Nat) (A5 : Option Addr) (c5 : Nat) (w : World) :
 Calls Tryz.prog 37 #[.agg (featCells F (.slice A3 F.onA.length c3) (.slice A5 F.andA.length c5)), .string f.str] w fun e w' => e = .returned (.agg #[.string (F.refT f), .slice (fA f A3 A5) (F.refA f).length (fC f c3 c5)]) ∧ Below w.heap.size w w' := by
 cases f <;> first | (cases hf; done) | exact refRef_any F _ rfl A3 c3 A5 c5 w
theorem fC_le {F : FT} {f : X30.Fd} {c3 c5 : Nat} (h3 : F.onA.length ≤ c3) (h5 : F.andA.length ≤ c5) : (F.refA f).length ≤ fC f c3 c5 := by
 cases f <;> first | exact h3 | exact h5
theorem fA_C {F : FT} {f : X30.Fd} {A3 A5 : Option Addr} {w : World} (h3 : Kd.C Kd.string w A3 F.onA.length F.onA) (h5 : Kd.C Kd.string w A5 F.andA.length F.andA) : Kd.C Kd.string w (fA f A3 A5) (F.refA f).length (F.refA f) := by
 cases f <;> first | exact h3 | exact h5
theorem refA_lt {F : FT} (h : FT.wt F ≤ 10000) (f : X30.Fd) : (F.refA f).length < 4611686018427387904 := by
 have h3 := wt_length F.onA; have h5 := wt_length F.andA; unfold FT.wt at h; cases f <;> first | (show F.onA.length < _; omega) | (show F.andA.length < _; omega)
theorem allFd_ref : ∀ (m : Nat) f, allFd[m]? = some f → (f.isRef = true ∧ m < 2) ∨ (f.isRef = false ∧ 2 ≤ m) := by
 intro m f h
 match m with
 | 0 | 1 | 2 | 3 | 4 | 5 | 6 | 7 => cases h; first | exact .inl ⟨rfl, by decide⟩ | exact .inr ⟨rfl, by decide⟩
 | m + 8 => exact absurd h (by simp [allFd])
theorem empty_same (F : FT) (f : X30.Fd) (hf : f.isRef = true) (hw : FT.wt F ≤ 10000) : voussoirref30_SameRef.f ((F.refA f).length + 2) (F.refT f) (F.refA f) ⟨#[]⟩ [] = some (emptyOf F f) := by
 rw [sameRef_f' _ _ _ _ (Nat.le_trans (Nat.le_of_lt (refA_lt hw f)) (by decide)) (by decide)]
 unfold emptyOf
 rw [if_pos hf]
 congr 2
 · by_cases h : F.refT f = ⟨#[]⟩
   · rw [h]; decide +kernel
   · rw [decide_eq_false h]
     cases hx : (F.refT f).toList with
     | nil => exact absurd (str_ext' (s := F.refT f) (t := ⟨#[]⟩) (hx.trans (by decide +kernel))) h
     | cons => rfl
 · cases F.refA f <;> rfl
theorem empty_plain {F : FT} {f : X30.Fd} (hf : f.isRef = false) {b : Bool} (h : emptyOf F f = b) : ((F.plain f).toList == []) = b ∧ ((F.plain f).toList != []) = !b := by
 unfold emptyOf at h
 rw [if_neg (by rw [hf]; exact Bool.false_ne_true)] at h
 subst h
 cases (F.plain f).toList <;> exact ⟨rfl, rfl⟩
theorem text_plain {F : FT} {f : X30.Fd} (hf : f.isRef = false) : textOf F f = some (F.plain f) := by
 unfold textOf; rw [if_neg (by rw [hf]; exact Bool.false_ne_true)]
theorem ck_held {w w4 w' : World} {F : FT} {v3 v5 : Value} {B m : Nat} {s : ByteArray} (hb : Below w4.heap.size w4 w') (hk : CkAt w w4 F v3 v5) (hx : w4.cell? ⟨B, m, none⟩ = some (.string s)) :
 w'.cell? ⟨w.heap.size, 0, none⟩ = some (.string F.id) ∧ w'.cell? ⟨w.heap.size, 1, none⟩ = some (.int .i64 F.kind) ∧ w'.cell? ⟨w.heap.size, 2, none⟩ = some (.string F.onT) ∧ w'.cell? ⟨w.heap.size, 3, none⟩ = some v3 ∧ w'.cell? ⟨w.heap.size, 4, none⟩ = some (.string F.andT) ∧ w'.cell? ⟨w.heap.size, 5, none⟩ = some v5 ∧ w'.cell? ⟨w.heap.size, 6, none⟩ = some (.string F.sketch) ∧ w'.cell? ⟨w.heap.size, 7, none⟩ = some (.string F.amount) ∧ w'.cell? ⟨w.heap.size, 8, none⟩ = some (.string F.count) ∧ w'.cell? ⟨w.heap.size, 9, none⟩ = some (.string F.x) ∧ w'.cell? ⟨w.heap.size, 10, none⟩ = some (.string F.y) ∧ w'.cell? ⟨w.heap.size, 11, none⟩ = some (.string F.z) ∧ w'.cell? ⟨B, m, none⟩ = some (.string s) := by
 obtain ⟨q0, q1, q2, q3, q4, q5, q6, q7, q8, q9, q10, q11⟩ := (hk.below hb).cells
 exact ⟨q0, q1, q2, q3, q4, q5, q6, q7, q8, q9, q10, q11, (hb.cell (World.block_lt_of_cell? _ _ hx)).trans hx⟩
def CS (F : FT) (v3 v5 : Value) (g B m : Nat) (s : ByteArray) (w' : World) : Prop := w'.cell? ⟨g, 0, none⟩ = some (.string F.id) ∧ w'.cell? ⟨g, 1, none⟩ = some (.int .i64 F.kind) ∧ w'.cell? ⟨g, 2, none⟩ = some (.string F.onT) ∧ w'.cell? ⟨g, 3, none⟩ = some v3 ∧ w'.cell? ⟨g, 4, none⟩ = some (.string F.andT) ∧ w'.cell? ⟨g, 5, none⟩ = some v5 ∧ w'.cell? ⟨g, 6, none⟩ = some (.string F.sketch) ∧ w'.cell? ⟨g, 7, none⟩ = some (.string F.amount) ∧ w'.cell? ⟨g, 8, none⟩ = some (.string F.count) ∧ w'.cell? ⟨g, 9, none⟩ = some (.string F.x) ∧ w'.cell? ⟨g, 10, none⟩ = some (.string F.y) ∧ w'.cell? ⟨g, 11, none⟩ = some (.string F.z) ∧ w'.cell? ⟨B, m, none⟩ = some (.string s)
theorem tkW {P : Program} {md : Region.Mode} {ops : Array Oper} {Q : Exit → Act → World → Prop} {S : World → Prop} {i : Nat} {oi : Oper} {v : Value} {fuel : Nat} {listed : Array Bool} {a : Act} {w : World}
 (hv : ∀ w, S w → (execOp a.eval oi).run P w = .ok (.value v) w) (h : wpAnyH P md ops Q S fuel (listed.setIfInBounds i true) (a.put oi.dst v) w)
 (hx : (listed.toList.takeWhile id).length = i := by rfl) (hi : ops[i]? = some oi := by simp only [List.getElem?_toArray, List.getElem?_cons_succ, List.getElem?_cons_zero]; rfl) (hs : Region.noSelect ops = true := by kernel_rfl) (hf : Region.free md ops listed i = true := by kernel_rfl) (hr : (Region.ready md ops listed).contains i = true := by kernel_rfl)
 (hQ : ∀ c a w, Q (.panic c) (a.put oi.dst v) w → Q (.panic c) a w := by exact fun _ _ _ h => h) (hw : Region.wanted oi (yielded ops a.tmps) = true := by rfl) (hS : S w := by assumption) : wpAnyH P md ops Q S (fuel + 1) listed a w :=
 wpAnyH_take hi hs hf hr hQ (.inl ⟨hw, hv⟩) hS h
theorem tkN {P : Program} {md : Region.Mode} {ops : Array Oper} {Q : Exit → Act → World → Prop} {S : World → Prop} {i : Nat} {oi : Oper} {fuel : Nat} {listed : Array Bool} {a : Act} {w : World}
 (h : wpAnyH P md ops Q S fuel (listed.setIfInBounds i true) (a.put oi.dst undef) w)
 (hx : (listed.toList.takeWhile id).length = i := by rfl) (hi : ops[i]? = some oi := by simp only [List.getElem?_toArray, List.getElem?_cons_succ, List.getElem?_cons_zero]; rfl) (hs : Region.noSelect ops = true := by kernel_rfl) (hf : Region.free md ops listed i = true := by kernel_rfl) (hr : (Region.ready md ops listed).contains i = true := by kernel_rfl)
 (hQ : ∀ c a w, Q (.panic c) (a.put oi.dst undef) w → Q (.panic c) a w := by exact fun _ _ _ h => h) (hw : Region.wanted oi (yielded ops a.tmps) = false := by rfl) (hS : S w := by assumption) : wpAnyH P md ops Q S (fuel + 1) listed a w :=
 wpAnyH_take hi hs hf hr hQ (.inr ⟨hw, rfl⟩) hS h
theorem fd_on_and (f : X30.Fd) : (f.isRef = true ∧ (f.str.toList == [111, 110]) = true) ∨ (f.isRef = true ∧ (f.str.toList == [111, 110]) = false ∧ (f.str.toList == [97, 110, 100]) = true) ∨ (f.isRef = false ∧ (f.str.toList == [111, 110]) = false ∧ (f.str.toList == [97, 110, 100]) = false) := by
 cases f <;> decide +kernel
theorem ck_two {w4 w' : World} {g t : Nat} {a c : Value} (hb : Below w4.heap.size w4 w') (h : w4.heap[g]? = some (.cells #[a, c] t (0, 0))) : w'.cell? ⟨g, 0, none⟩ = some a ∧ w'.cell? ⟨g, 1, none⟩ = some c :=
 ⟨(blk_cell (blk_below h hb) 0).trans rfl, (blk_cell (blk_below h hb) 1).trans rfl⟩
theorem text_size {F : FT} {f : X30.Fd} {text : ByteArray} (hw : FT.wt F ≤ 10000) (hf : f.isRef = true) (h : textOf F f = some text) : text.size ≤ 1000000 := by
 have key : ∀ (t : ByteArray) (l : List ByteArray), t.size + wt l ≤ 100000 → resolve_Format.f t l = some text → text.size ≤ 1000000 := by
  intro t l hs he
  obtain ⟨h1, h2⟩ := format_some t l hs
  obtain rfl := Option.some.inj (he.symm.trans h1)
  simp only [ByteArray.size, List.size_toArray]
  omega
 unfold textOf at h
 rw [if_pos hf] at h
 refine key _ _ ?_ h
 unfold FT.wt at hw
 cases f <;> first | (show F.onT.size + wt F.onA ≤ _; omega) | (show F.andT.size + wt F.andA ≤ _; omega)
theorem eqlIn_nil_slice {P : Program} (w : World) (d : Nat) (t e : TypeId) (a : Option Addr) (n c : Nat) (h : P.underlying t = some (.slice e)) :
 (Op.equalIn (d + 1) t (.slice a n c) (.slice none 0 0)).run P w = .ok a.isNone w := by
 cases a <;> simp [Op.equalIn, run_underlying h]
theorem eqlOf_nil_slice {P : Program} (w : World) (t e : TypeId) (a : Option Addr) (n c : Nat) (h : P.underlying t = some (.slice e)) :
 (Op.equal t (.slice a n c) (.slice none 0 0)).run P w = .ok a.isNone w := eqlIn_nil_slice w 9999 t e a n c h
theorem eql_nil_slice {P : Program} (w : World) (t e : TypeId) (a : Option Addr) (n c : Nat) (h : P.underlying t = some (.slice e)) :
 (binOp .eql t (.slice a n c) (.slice none 0 0)).run P w = .ok (.bool a.isNone) w := by
 simp only [binOp]
 simp [eqlOf_nil_slice w t e a n c h]
set_option maxHeartbeats 12800000 in
set_option maxRecDepth 100000 in
theorem refCheck_walk (k : Nat) (F : FT) (A3 : Option Addr) (c3 : Nat) (A5 : Option Addr) (c5 : Nat) (r : Int) (w : World) (hr3 : Kd.C Kd.string w A3 F.onA.length F.onA) (hc3 : F.onA.length ≤ c3) (hr5 : Kd.C Kd.string w A5 F.andA.length F.andA) (hc5 : F.andA.length ≤ c5)
 (hw : FT.wt F ≤ 10000) (h : checkOf k F = some r) :
 Calls Tryz.prog 20 #[.agg (featCells F (.slice A3 F.onA.length c3) (.slice A5 F.andA.length c5))] w fun e w' => e = .returned (.int .i64 r) ∧ Below w.heap.size w w' := by
 unfold checkOf at h
 obtain ⟨⟨n1, n2⟩, hn, h⟩ := Option.bind_eq_some_iff.1 h
 simp only at h
 obtain ⟨k1, hn⟩ := make_of_new k F.id sSide n1 n2 (by unfold FT.wt at hw; omega) (by decide) hn
 obtain ⟨kk, hkk⟩ : ∃ kk, kk = F.kind := ⟨_, rfl⟩
 have HW := Aside0.mk hw
 have HN := Aside0.mk hn
 have HH := Aside0.mk h
 have HR3 := Aside0.mk hr3
 have HR5 := Aside0.mk hr5
 have HC3 := Aside0.mk hc3
 have HC5 := Aside0.mk hc5
 have HKK := Aside0.mk hkk
 have HK0 := Aside0.mk (CkAt.mk (w := w) (F := F) (blk_new w (.cells (featCells F (.slice A3 F.onA.length c3) (.slice A5 F.andA.length c5)) 30)) (below_alloc (Below.refl _ _) _))
 have x0 : (w.alloc (.cells (featCells F (.slice A3 F.onA.length c3) (.slice A5 F.andA.length c5)) 30)).cell? ⟨w.heap.size, 0, none⟩ = some (.string F.id) := (blk_cell HK0.out.blk 0).trans rfl
 have hnil : ∀ (w : World) (a : Option Addr) (n c : Nat), (binOp .eql 25 (.slice a n c) (.slice none 0 0)).run Tryz.prog w = .ok (.bool a.isNone) w := fun w a n c => eql_nil_slice w _ _ a n c Tryz.underlying25
 clear hn h hr3 hr5 hkk hc3 hc5 hw
 go_enter Tryz.func20, Tryz.ntmps20
 go_wp2_with fail
 refine (voussoirref27_Make.calls k1 F.id sSide 0 n1 n2 _ HN.out).mono ?_
 rintro e1 w1 ⟨rfl, hb1⟩
 have HK1 := Aside0.mk (HK0.out.below hb1)
 clear hb1 x0 HK0
 by_cases hz : n2 = 0
 · subst hz
   have hh := HH.out
   rw [if_pos rfl] at hh
   have y1 : w1.cell? ⟨w.heap.size, 1, none⟩ = some (.int .i64 kk) := (blk_cell HK1.out.blk 1).trans (by rw [HKK.out]; rfl)
   by_cases hk : 1 ≤ F.kind ∧ F.kind ≤ 8
   · rw [if_pos hk] at hh
     obtain ⟨n, hkn⟩ : ∃ n : Nat, (F.kind - 1).toNat = n := ⟨_, rfl⟩
     rw [hkn] at hh
     have hn8 : n < 8 := by omega
     have hkk2 : kk = (n : Int) + 1 := by rw [HKK.out]; omega
     have HL := Aside0.mk hh
     subst hkk2
     clear hh hk hkn HH
     go_wp2_with fail
     refine (voussoirref30_has.calls 1 ((n : Int) + 1) (kAt n).2 _ (has_f n hn8)).mono ?_
     rintro e2 w2 ⟨v0, rfl, hR, hb2⟩
     obtain ⟨A0, c0, e0⟩ := Kd.R_slice hR
     subst e0
     obtain ⟨-, hc0, hC0⟩ := Kd.R_reads' hR
     have hks := kindFd_str n hn8
     obtain ⟨hp0, hp4⟩ := kindFd_pos n hn8
     have hlen : (kAt n).2.length = (kindFd n).length := by rw [hks, List.length_map]
     obtain ⟨b, o, e0, hblt, hown⟩ := C_string_cells hC0 (by rw [hlen]; exact hp0)
     subst e0
     have HOWN : Aside0 (∀ (j : Nat) f, (kindFd n)[j]? = some f → w2.cell? ⟨b, o + j, none⟩ = some (.string f.str)) := ⟨fun j f hj => hown j f.str (by rw [hks, List.getElem?_map, hj]; rfl)⟩
     have HK2 := Aside0.mk (HK1.out.below hb2)
     have HCO := Aside0.mk hC0
     have HC0 := Aside0.mk hc0
     have HLEN := Aside0.mk hlen
     clear hR hb2 hc0 hC0 hown hblt hks HK1 y1 hlen
     go_wp2_with fail
     obtain ⟨B, hB⟩ : ∃ B, B = w2.heap.size := ⟨_, rfl⟩
     clear hnil
     have HLT1 := blk_new w2 (.cells (allFd.map fun f => Value.string f.str).toArray 9)
     have HK3 := Aside0.mk (HK2.out.below (below_alloc (Below.refl _ _) (.cells (allFd.map fun f => Value.string f.str).toArray 9)))
     have H23 := Aside0.mk (below_alloc (Below.refl w2.heap.size w2) (.cells (allFd.map fun f => Value.string f.str).toArray 9))
     rw [← hB] at HLT1
     rw [← hB]
     have HLT := Aside0.mk HLT1
     clear HLT1 hB HK2
     go_loopw [7] (fun i wr => ∃ m : Nat, i = .int .i64 m ∧ m ≤ 8 ∧ Aside0 (CkAt w wr F (.slice A3 F.onA.length c3) (.slice A5 F.andA.length c5)) ∧ Aside0 (Below w2.heap.size w2 wr) ∧ Aside0 (wr.heap[B]? = some (.cells (allFd.map fun f => Value.string f.str).toArray 9 (0, 0))) ∧ Aside0 (∀ (j : Nat) f, j < m → allFd[j]? = some f → extra F n f = false))
      (fun i _ => 8 - (RowKit.intOf i).toNat)
     case atStart => exact ⟨0, rfl, Nat.zero_le _, HK3, H23, HLT, ⟨fun j f hj => absurd hj (Nat.not_lt_zero j)⟩⟩
     case round =>
      obtain ⟨m, rfl, hm, HK, H2, HA, HNO⟩ := hrel
      clear HK3 H23 HLT
      by_cases hlt : m < 8
      · obtain ⟨f, hf⟩ : ∃ f, allFd[m]? = some f := ⟨_, List.getElem?_eq_getElem hlt⟩
        have hx : wr.cell? ⟨B, m, none⟩ = some (.string f.str) := (blk_cell HA.out m).trans (by simp [hf])
        have hcon := voussoirref30_among.calls _ (some ⟨b, o, none⟩) c0 (kAt n).2 f.str _ wr (Kd.C_below HCO.out H2.out) HC0.out (among_f (kAt n).2 f.str (by rw [HLEN.out]; omega))
        have HF1 := Aside0.mk hf
        have HCON := Aside0.mk hcon
        have hfr := allFd_ref m f hf
        clear hf hcon
        go_wp2_with fail
        refine HCON.out.mono ?_
        rintro e4 w4 ⟨rfl, hd⟩
        have HK4 := Aside0.mk (HK.out.below hd.below)
        have H24 := Aside0.mk (below_step H2.out hd.below)
        have HA4 := Aside0.mk (blk_below HA.out hd.below)
        clear hd HCON hx HK H2 HA
        cases hmem : memS (kAt n).2 f.str with
        | true =>
         have HNO1 : Aside0 (∀ (j : Nat) f, j < m + 1 → allFd[j]? = some f → extra F n f = false) := ⟨fun j g hj hg => by
          rcases Nat.lt_or_ge j m with h | h
          · exact HNO.out j g h hg
          · obtain rfl : j = m := by omega
            obtain rfl := Option.some.inj (HF1.out.symm.trans hg)
            unfold extra; rw [hmem]; rfl⟩
         clear hmem hfr
         go_wp2_with fail
         go_roundw
         case rel => exact ⟨m + 1, by go_num, by omega, HK4, H24, HA4, HNO1⟩
         case measure => simp [RowKit.intOf]; omega
        | false =>
         have HMEM := Aside0.mk hmem
         clear hmem
         cases hem : emptyOf F f with
         | true =>
          have HNO1 : Aside0 (∀ (j : Nat) f, j < m + 1 → allFd[j]? = some f → extra F n f = false) := ⟨fun j g hj hg => by
           rcases Nat.lt_or_ge j m with h | h
           · exact HNO.out j g h hg
           · obtain rfl : j = m := by omega
             obtain rfl := Option.some.inj (HF1.out.symm.trans hg)
             unfold extra; rw [hem]; simp⟩
          have HX := Aside0.mk ((blk_cell HA4.out m).trans (show _ = some (Value.string f.str) by simp [HF1.out]))
          rcases hfr with ⟨href, hm2⟩ | ⟨href, hm2⟩
          · have hm3 : ((m : Int) < 2) = True := eq_true (by omega)
            have hm5 : ((2 : Int) ≤ m) = False := eq_false (by omega)
            have hse := empty_same F f href HW.out
            rw [hem] at hse
            have HSE := Aside0.mk hse
            have HREF := Aside0.mk href
            clear hem hse href hm2
            go_wp2_with fail
            refine wp_region_held_drew (S := (CS F (.slice A3 F.onA.length c3) (.slice A5 F.andA.length c5) w.heap.size B (m) f.str)) (by kernel_rfl) ?_ (fun hHeld => ?_)
            · (refine ck_held ?_ HK4.out HX.out; (repeat (first | with_reducible exact HB6.out | with_reducible exact HB5.out | with_reducible exact Below.refl _ _ | with_reducible apply below_drew)))
            iterate 8 (refine tkW (v := ?_) ?_ ?_; rotate_left; (intro w hSw; (try dsimp only at hSw); unfold CS at hSw; go_simp; try with_reducible rfl); try simp only [Act.put, List.setIfInBounds_toArray, List.set_cons_zero, List.set_cons_succ])
            refine wpAnyH_take (i := 9) (v := ?_) (by simp only [List.getElem?_toArray, List.getElem?_cons_succ, List.getElem?_cons_zero]; rfl) (by kernel_rfl) (by kernel_rfl) (by kernel_rfl) (by exact fun _ _ _ h => h) (Or.inl ⟨by rfl, ?_⟩) (by assumption) ?_
            rotate_left
            · (intro w hSw; (try dsimp only at hSw); unfold CS at hSw; go_simp; try with_reducible rfl)
            try simp only [Act.put, List.setIfInBounds_toArray, List.set_cons_zero, List.set_cons_succ]
            refine wpAnyH_ready (rs := [8]) (by kernel_rfl) (by simp) (AllReadyH.cons rfl (fun K hK => ?_) AllReadyH.nil)
            rw [if_pos (by rfl)]
            go_simp
            go_at_call 37; refine (refRef_any' F f HREF.out A3 c3 A5 c5 _).mono ?_; rintro e5 w5 ⟨rfl, hb5⟩; have HB5 : Aside0 (Below w4.heap.size w4 w5) := ⟨below_step (by repeat (first | with_reducible exact HB6.out | with_reducible exact HB5.out | with_reducible exact Below.refl _ _ | with_reducible apply below_drew)) hb5⟩; clear hb5
            refine hK.out _ _ ?_ (fun hHeld2 => ?_)
            · (refine ck_held ?_ HK4.out HX.out; (repeat (first | with_reducible exact HB6.out | with_reducible exact HB5.out | with_reducible exact Below.refl _ _ | with_reducible apply below_drew)))
            clear hK K hHeld; have hHeld := hHeld2; clear hHeld2
            try simp only [Act.put, List.setIfInBounds_toArray, List.set_cons_zero, List.set_cons_succ]
            refine wpAnyH_ready (rs := [10]) (by kernel_rfl) (by simp) (AllReadyH.cons rfl (fun K hK => ?_) AllReadyH.nil)
            rw [if_pos (by rfl)]
            go_simp
            go_at_call 30; refine (voussoirref30_SameRef.calls _ (F.refT f) (fA f A3 A5) (fC f c3 c5) (F.refA f) ⟨#[]⟩ none 0 [] true _ (Kd.C_below (fA_C HR3.out HR5.out) (below_step HK4.out.hb (by repeat (first | with_reducible exact HB6.out | with_reducible exact HB5.out | with_reducible exact Below.refl _ _ | with_reducible apply below_drew)))) (fC_le HC3.out HC5.out) (Kd.C_nil _ _) (Nat.le_refl _) HSE.out).mono ?_; rintro e6 w6 ⟨rfl, hb6⟩; have HB6 : Aside0 (Below w4.heap.size w4 w6) := ⟨below_step (by repeat (first | with_reducible exact HB6.out | with_reducible exact HB5.out | with_reducible exact Below.refl _ _ | with_reducible apply below_drew)) hb6⟩; clear hb6
            refine hK.out _ _ ?_ (fun hHeld2 => ?_)
            · (refine ck_held ?_ HK4.out HX.out; (repeat (first | with_reducible exact HB6.out | with_reducible exact HB5.out | with_reducible exact Below.refl _ _ | with_reducible apply below_drew)))
            clear hK K hHeld; have hHeld := hHeld2; clear hHeld2
            try simp only [Act.put, List.setIfInBounds_toArray, List.set_cons_zero, List.set_cons_succ]
            iterate 6 (refine tkW (v := ?_) ?_ ?_; rotate_left; (intro w hSw; (try dsimp only at hSw); unfold CS at hSw; go_simp; try with_reducible rfl); try simp only [Act.put, List.setIfInBounds_toArray, List.set_cons_zero, List.set_cons_succ])
            iterate 7 (refine tkN ?_; try simp only [Act.put, List.setIfInBounds_toArray, List.set_cons_zero, List.set_cons_succ])
            iterate 2 (refine tkW (v := ?_) ?_ ?_; rotate_left; (intro w hSw; (try dsimp only at hSw); unfold CS at hSw; go_simp; try with_reducible rfl); try simp only [Act.put, List.setIfInBounds_toArray, List.set_cons_zero, List.set_cons_succ])
            refine wpAnyH_done (by kernel_rfl) ?_ _
            all_goals
             have HK6 := Aside0.mk (HK4.out.below HB6.out)
             have H26 := Aside0.mk (below_step H24.out HB6.out)
             have HA6 := Aside0.mk (blk_below HA4.out HB6.out)
             go_wp2_with fail
             go_roundw
             case rel => first | exact ⟨m + 1, by go_num, by omega, HK6, H26, HA6, HNO1⟩ | ((repeat apply Exists.intro); exact ⟨⟨m + 1, by go_num, by omega, HK6, H26, HA6, HNO1⟩, rfl⟩)
             case measure => simp [RowKit.intOf]; omega
          · have hm3 : ((m : Int) < 2) = False := eq_false (by omega)
            have hm4 : ((2 : Int) ≤ m) = True := eq_true (by omega)
            obtain ⟨he1, he2⟩ := empty_plain href hem
            have HT := Aside0.mk (text_plain (F := F) href)
            clear hem href hm2
            go_wp2_with fail
            refine wp_region_held_drew (S := (CS F (.slice A3 F.onA.length c3) (.slice A5 F.andA.length c5) w.heap.size B (m) f.str)) (by kernel_rfl) ?_ (fun hHeld => ?_)
            · (refine ck_held ?_ HK4.out HX.out; (repeat (first | with_reducible exact HB6.out | with_reducible exact HB5.out | with_reducible exact Below.refl _ _ | with_reducible apply below_drew)))
            iterate 3 (refine tkW (v := ?_) ?_ ?_; rotate_left; (intro w hSw; (try dsimp only at hSw); unfold CS at hSw; go_simp; try with_reducible rfl); try simp only [Act.put, List.setIfInBounds_toArray, List.set_cons_zero, List.set_cons_succ])
            iterate 9 (refine tkN ?_; try simp only [Act.put, List.setIfInBounds_toArray, List.set_cons_zero, List.set_cons_succ])
            iterate 10 (refine tkW (v := ?_) ?_ ?_; rotate_left; (intro w hSw; (try dsimp only at hSw); unfold CS at hSw; go_simp; try with_reducible rfl); try simp only [Act.put, List.setIfInBounds_toArray, List.set_cons_zero, List.set_cons_succ])
            refine wpAnyH_ready (rs := [22]) (by kernel_rfl) (by simp) (AllReadyH.cons rfl (fun K hK => ?_) AllReadyH.nil)
            rw [if_pos (by rfl)]
            go_simp
            go_at_call 32; refine (refText_any F f _ A3 c3 A5 c5 _ HW.out HT.out (Kd.C_below HR3.out (below_step HK4.out.hb (by repeat (first | with_reducible exact HB6.out | with_reducible exact HB5.out | with_reducible exact Below.refl _ _ | with_reducible apply below_drew)))) HC3.out (Kd.C_below HR5.out (below_step HK4.out.hb (by repeat (first | with_reducible exact HB6.out | with_reducible exact HB5.out | with_reducible exact Below.refl _ _ | with_reducible apply below_drew)))) HC5.out).mono ?_; rintro e6 w6 ⟨rfl, hb6⟩; have HB6 : Aside0 (Below w4.heap.size w4 w6) := ⟨below_step (by repeat (first | with_reducible exact HB6.out | with_reducible exact HB5.out | with_reducible exact Below.refl _ _ | with_reducible apply below_drew)) hb6⟩; clear hb6
            refine hK.out _ _ ?_ (fun hHeld2 => ?_)
            · (refine ck_held ?_ HK4.out HX.out; (repeat (first | with_reducible exact HB6.out | with_reducible exact HB5.out | with_reducible exact Below.refl _ _ | with_reducible apply below_drew)))
            clear hK K hHeld; have hHeld := hHeld2; clear hHeld2
            try simp only [Act.put, List.setIfInBounds_toArray, List.set_cons_zero, List.set_cons_succ]
            iterate 3 (refine tkW (v := ?_) ?_ ?_; rotate_left; (intro w hSw; (try dsimp only at hSw); unfold CS at hSw; go_simp; try with_reducible rfl); try simp only [Act.put, List.setIfInBounds_toArray, List.set_cons_zero, List.set_cons_succ])
            refine wpAnyH_done (by kernel_rfl) ?_ _
            all_goals
             have HK6 := Aside0.mk (HK4.out.below HB6.out)
             have H26 := Aside0.mk (below_step H24.out HB6.out)
             have HA6 := Aside0.mk (blk_below HA4.out HB6.out)
             go_wp2_with fail
             go_roundw
             case rel => first | exact ⟨m + 1, by go_num, by omega, HK6, H26, HA6, HNO1⟩ | ((repeat apply Exists.intro); exact ⟨⟨m + 1, by go_num, by omega, HK6, H26, HA6, HNO1⟩, rfl⟩)
             case measure => simp [RowKit.intOf]; omega
         | false =>
          have HANY : Aside0 (allFd.any (extra F n) = true) := ⟨by
           rw [List.any_eq_true]
           exact ⟨f, List.mem_of_getElem? HF1.out, by unfold extra; rw [hem, HMEM.out]; rfl⟩⟩
          have HX := Aside0.mk ((blk_cell HA4.out m).trans (show _ = some (Value.string f.str) by simp [HF1.out]))
          rcases hfr with ⟨href, hm2⟩ | ⟨href, hm2⟩
          · have hm3 : ((m : Int) < 2) = True := eq_true (by omega)
            have hm5 : ((2 : Int) ≤ m) = False := eq_false (by omega)
            have hse := empty_same F f href HW.out
            rw [hem] at hse
            have HSE := Aside0.mk hse
            have HREF := Aside0.mk href
            clear hem hse href hm2
            go_wp2_with fail
            refine wp_region_held_drew (S := (CS F (.slice A3 F.onA.length c3) (.slice A5 F.andA.length c5) w.heap.size B (m) f.str)) (by kernel_rfl) ?_ (fun hHeld => ?_)
            · (refine ck_held ?_ HK4.out HX.out; (repeat (first | with_reducible exact HB6.out | with_reducible exact HB5.out | with_reducible exact Below.refl _ _ | with_reducible apply below_drew)))
            iterate 8 (refine tkW (v := ?_) ?_ ?_; rotate_left; (intro w hSw; (try dsimp only at hSw); unfold CS at hSw; go_simp; try with_reducible rfl); try simp only [Act.put, List.setIfInBounds_toArray, List.set_cons_zero, List.set_cons_succ])
            refine wpAnyH_take (i := 9) (v := ?_) (by simp only [List.getElem?_toArray, List.getElem?_cons_succ, List.getElem?_cons_zero]; rfl) (by kernel_rfl) (by kernel_rfl) (by kernel_rfl) (by exact fun _ _ _ h => h) (Or.inl ⟨by rfl, ?_⟩) (by assumption) ?_
            rotate_left
            · (intro w hSw; (try dsimp only at hSw); unfold CS at hSw; go_simp; try with_reducible rfl)
            try simp only [Act.put, List.setIfInBounds_toArray, List.set_cons_zero, List.set_cons_succ]
            refine wpAnyH_ready (rs := [8]) (by kernel_rfl) (by simp) (AllReadyH.cons rfl (fun K hK => ?_) AllReadyH.nil)
            rw [if_pos (by rfl)]
            go_simp
            go_at_call 37; refine (refRef_any' F f HREF.out A3 c3 A5 c5 _).mono ?_; rintro e5 w5 ⟨rfl, hb5⟩; have HB5 : Aside0 (Below w4.heap.size w4 w5) := ⟨below_step (by repeat (first | with_reducible exact HB6.out | with_reducible exact HB5.out | with_reducible exact Below.refl _ _ | with_reducible apply below_drew)) hb5⟩; clear hb5
            refine hK.out _ _ ?_ (fun hHeld2 => ?_)
            · (refine ck_held ?_ HK4.out HX.out; (repeat (first | with_reducible exact HB6.out | with_reducible exact HB5.out | with_reducible exact Below.refl _ _ | with_reducible apply below_drew)))
            clear hK K hHeld; have hHeld := hHeld2; clear hHeld2
            try simp only [Act.put, List.setIfInBounds_toArray, List.set_cons_zero, List.set_cons_succ]
            refine wpAnyH_ready (rs := [10]) (by kernel_rfl) (by simp) (AllReadyH.cons rfl (fun K hK => ?_) AllReadyH.nil)
            rw [if_pos (by rfl)]
            go_simp
            go_at_call 30; refine (voussoirref30_SameRef.calls _ (F.refT f) (fA f A3 A5) (fC f c3 c5) (F.refA f) ⟨#[]⟩ none 0 [] false _ (Kd.C_below (fA_C HR3.out HR5.out) (below_step HK4.out.hb (by repeat (first | with_reducible exact HB6.out | with_reducible exact HB5.out | with_reducible exact Below.refl _ _ | with_reducible apply below_drew)))) (fC_le HC3.out HC5.out) (Kd.C_nil _ _) (Nat.le_refl _) HSE.out).mono ?_; rintro e6 w6 ⟨rfl, hb6⟩; have HB6 : Aside0 (Below w4.heap.size w4 w6) := ⟨below_step (by repeat (first | with_reducible exact HB6.out | with_reducible exact HB5.out | with_reducible exact Below.refl _ _ | with_reducible apply below_drew)) hb6⟩; clear hb6
            refine hK.out _ _ ?_ (fun hHeld2 => ?_)
            · (refine ck_held ?_ HK4.out HX.out; (repeat (first | with_reducible exact HB6.out | with_reducible exact HB5.out | with_reducible exact Below.refl _ _ | with_reducible apply below_drew)))
            clear hK K hHeld; have hHeld := hHeld2; clear hHeld2
            try simp only [Act.put, List.setIfInBounds_toArray, List.set_cons_zero, List.set_cons_succ]
            iterate 3 (refine tkW (v := ?_) ?_ ?_; rotate_left; (intro w hSw; (try dsimp only at hSw); unfold CS at hSw; go_simp; try with_reducible rfl); try simp only [Act.put, List.setIfInBounds_toArray, List.set_cons_zero, List.set_cons_succ])
            iterate 11 (refine tkN ?_; try simp only [Act.put, List.setIfInBounds_toArray, List.set_cons_zero, List.set_cons_succ])
            iterate 1 (refine tkW (v := ?_) ?_ ?_; rotate_left; (intro w hSw; (try dsimp only at hSw); unfold CS at hSw; go_simp; try with_reducible rfl); try simp only [Act.put, List.setIfInBounds_toArray, List.set_cons_zero, List.set_cons_succ])
            refine wpAnyH_done (by kernel_rfl) ?_ _
            all_goals
             have hl := HL.out
             rw [if_pos HANY.out] at hl
             obtain rfl := Option.some.inj hl
             clear hl HL
             go_wp2_with fail
             go_ret
             exact ⟨rfl, below_step HK4.out.hb HB6.out⟩
          · have hm3 : ((m : Int) < 2) = False := eq_false (by omega)
            have hm4 : ((2 : Int) ≤ m) = True := eq_true (by omega)
            obtain ⟨he1, he2⟩ := empty_plain href hem
            have HT := Aside0.mk (text_plain (F := F) href)
            clear hem href hm2
            go_wp2_with fail
            refine wp_region_held_drew (S := (CS F (.slice A3 F.onA.length c3) (.slice A5 F.andA.length c5) w.heap.size B (m) f.str)) (by kernel_rfl) ?_ (fun hHeld => ?_)
            · (refine ck_held ?_ HK4.out HX.out; (repeat (first | with_reducible exact HB6.out | with_reducible exact HB5.out | with_reducible exact Below.refl _ _ | with_reducible apply below_drew)))
            iterate 3 (refine tkW (v := ?_) ?_ ?_; rotate_left; (intro w hSw; (try dsimp only at hSw); unfold CS at hSw; go_simp; try with_reducible rfl); try simp only [Act.put, List.setIfInBounds_toArray, List.set_cons_zero, List.set_cons_succ])
            iterate 9 (refine tkN ?_; try simp only [Act.put, List.setIfInBounds_toArray, List.set_cons_zero, List.set_cons_succ])
            iterate 10 (refine tkW (v := ?_) ?_ ?_; rotate_left; (intro w hSw; (try dsimp only at hSw); unfold CS at hSw; go_simp; try with_reducible rfl); try simp only [Act.put, List.setIfInBounds_toArray, List.set_cons_zero, List.set_cons_succ])
            refine wpAnyH_ready (rs := [22]) (by kernel_rfl) (by simp) (AllReadyH.cons rfl (fun K hK => ?_) AllReadyH.nil)
            rw [if_pos (by rfl)]
            go_simp
            go_at_call 32; refine (refText_any F f _ A3 c3 A5 c5 _ HW.out HT.out (Kd.C_below HR3.out (below_step HK4.out.hb (by repeat (first | with_reducible exact HB6.out | with_reducible exact HB5.out | with_reducible exact Below.refl _ _ | with_reducible apply below_drew)))) HC3.out (Kd.C_below HR5.out (below_step HK4.out.hb (by repeat (first | with_reducible exact HB6.out | with_reducible exact HB5.out | with_reducible exact Below.refl _ _ | with_reducible apply below_drew)))) HC5.out).mono ?_; rintro e6 w6 ⟨rfl, hb6⟩; have HB6 : Aside0 (Below w4.heap.size w4 w6) := ⟨below_step (by repeat (first | with_reducible exact HB6.out | with_reducible exact HB5.out | with_reducible exact Below.refl _ _ | with_reducible apply below_drew)) hb6⟩; clear hb6
            refine hK.out _ _ ?_ (fun hHeld2 => ?_)
            · (refine ck_held ?_ HK4.out HX.out; (repeat (first | with_reducible exact HB6.out | with_reducible exact HB5.out | with_reducible exact Below.refl _ _ | with_reducible apply below_drew)))
            clear hK K hHeld; have hHeld := hHeld2; clear hHeld2
            try simp only [Act.put, List.setIfInBounds_toArray, List.set_cons_zero, List.set_cons_succ]
            iterate 3 (refine tkW (v := ?_) ?_ ?_; rotate_left; (intro w hSw; (try dsimp only at hSw); unfold CS at hSw; go_simp; try with_reducible rfl); try simp only [Act.put, List.setIfInBounds_toArray, List.set_cons_zero, List.set_cons_succ])
            refine wpAnyH_done (by kernel_rfl) ?_ _
            all_goals
             have hl := HL.out
             rw [if_pos HANY.out] at hl
             obtain rfl := Option.some.inj hl
             clear hl HL
             go_wp2_with fail
             go_ret
             exact ⟨rfl, below_step HK4.out.hb HB6.out⟩
      · obtain rfl : m = 8 := by omega
        have hany : ¬ (allFd.any (extra F n) = true) := by
         rw [List.any_eq_true]
         rintro ⟨f, hf, he⟩
         obtain ⟨j, hj, rfl⟩ := List.getElem_of_mem hf
         rw [HNO.out j _ hj (List.getElem?_eq_getElem hj)] at he
         exact Bool.false_ne_true he
        have hl := HL.out
        rw [if_neg hany] at hl
        have HL2 := Aside0.mk hl
        clear hl hany HL HNO HA
        have hlen2 := HLEN.out
        have hp4 := (kindFd_pos n hn8).2
        rw [hlen2]
        clear hlen2
        go_wp2_with fail
        go_loopw [8] (fun i wr => ∃ m : Nat, i = .int .i64 m ∧ m ≤ (kindFd n).length ∧ Aside0 (CkAt w wr F (.slice A3 F.onA.length c3) (.slice A5 F.andA.length c5)) ∧ Aside0 (Below w2.heap.size w2 wr) ∧ Aside0 (soundAll k F ((kindFd n).drop m) = some r))
         (fun i _ => 8 - (RowKit.intOf i).toNat)
        case atStart => exact ⟨0, rfl, Nat.zero_le _, HK, H2, HL2⟩
        case round =>
         clear HL2 HK H2 hm hlt
         obtain ⟨m, rfl, hm, HK, H2, HS⟩ := hrel
         by_cases hlt : m < (kindFd n).length
         · obtain ⟨f, hf⟩ : ∃ f, (kindFd n)[m]? = some f := ⟨_, List.getElem?_eq_getElem hlt⟩
           have hx := (H2.out.cell (p := ⟨b, o + m, none⟩) (World.block_lt_of_cell? _ _ (HOWN.out m f hf))).trans (HOWN.out m f hf)
           have hs := HS.out
           rw [List.drop_eq_getElem_cons hlt, show (kindFd n)[m] = f from by rw [List.getElem?_eq_getElem hlt] at hf; exact Option.some.inj hf, soundAll] at hs
           obtain ⟨e, he, hs⟩ := Option.bind_eq_some_iff.1 hs
           obtain ⟨text, ht, he⟩ := Option.bind_eq_some_iff.1 (show (textOf F f).bind (fun text => (badOf k F f text).bind fun bad => if bad then some 3 else lastOf k F f text) = some e from he)
           obtain ⟨bad, hbad, he⟩ := Option.bind_eq_some_iff.1 he
           have HE := Aside0.mk he
           have HT := Aside0.mk ht
           have HBAD := Aside0.mk hbad
           have HS2 := Aside0.mk hs
           have HX := Aside0.mk hx
           have HF := Aside0.mk hf
           clear hf he hs HS ht hbad
           go_upto_region 17 with fail
           go_cut [82] (fun c wx => c = .bool f.isRef ∧ wx = wr)
           case first =>
            clear HT HBAD HE HS2 HF
            rcases fd_on_and f with ⟨h0, h1⟩ | ⟨h0, h1, h2⟩ | ⟨h0, h1, h2⟩
            all_goals (have H0 := Aside0.mk h0; clear h0; go_wp2_with fail; go_meet; exact ⟨by rw [H0.out], rfl⟩)
           case rest =>
            obtain ⟨rfl, rfl⟩ := hcut
            obtain ⟨wq, rfl⟩ : ∃ x : World, x = wc := ⟨_, rfl⟩
            go_upto_if 82 with fail
            go_cut [] (fun wx => Aside0 (CkAt w wx F (.slice A3 F.onA.length c3) (.slice A5 F.andA.length c5)) ∧ Aside0 (Below w2.heap.size w2 wx) ∧ Aside0 (lastOf k F f text = some e))
            case first =>
             cases href : f.isRef with
             | false =>
              have hbad := HBAD.out
              unfold badOf at hbad
              rw [href, if_neg Bool.false_ne_true] at hbad
              have he := HE.out
              rw [← Option.some.inj hbad, if_neg Bool.false_ne_true] at he
              have HE2 := Aside0.mk he
              clear hbad he HBAD HE href
              go_wp2_with fail
              go_meet
              exact ⟨HK, H2, HE2⟩
             | true =>
              have HREF := Aside0.mk href
              have hbad := HBAD.out
              unfold badOf at hbad
              rw [href, if_pos rfl] at hbad
              obtain ⟨⟨p1, p2, p3⟩, hp, hbe⟩ := Option.map_eq_some_iff.1 hbad
              simp only at hbe
              obtain ⟨k1p, hp'⟩ := ref_of_parse k text _ (text_size HW.out href HT.out) hp
              have HP := Aside0.mk hp'
              have HBE := Aside0.mk hbe
              clear hbad hbe hp hp' HBAD href
              go_upto_region 18 with fail
              go_cut [9, 10] (fun p q wx => q = .bool p3 ∧ ∃ (b9 : Nat) (D9 : Option Addr) (g9 : Nat), p = .pointer (some ⟨b9, 0, none⟩) ∧ Aside0 (p2.length ≤ g9) ∧ Aside0 (wx.heap[b9]? = some (.cells #[.string p1, .slice D9 p2.length g9] 27 (0, 0))) ∧ Aside0 (Kd.C Kd.string wx D9 p2.length p2) ∧ Aside0 (Below wq.heap.size wq wx))
              case first =>
               clear HE HS2
               go_region_held3 (fun w' => w'.cell? ⟨w.heap.size, 0, none⟩ = some (.string F.id) ∧ w'.cell? ⟨w.heap.size, 1, none⟩ = some (.int .i64 F.kind) ∧ w'.cell? ⟨w.heap.size, 2, none⟩ = some (.string F.onT) ∧ w'.cell? ⟨w.heap.size, 3, none⟩ = some (.slice A3 F.onA.length c3) ∧ w'.cell? ⟨w.heap.size, 4, none⟩ = some (.string F.andT) ∧ w'.cell? ⟨w.heap.size, 5, none⟩ = some (.slice A5 F.andA.length c5) ∧ w'.cell? ⟨w.heap.size, 6, none⟩ = some (.string F.sketch) ∧ w'.cell? ⟨w.heap.size, 7, none⟩ = some (.string F.amount) ∧ w'.cell? ⟨w.heap.size, 8, none⟩ = some (.string F.count) ∧ w'.cell? ⟨w.heap.size, 9, none⟩ = some (.string F.x) ∧ w'.cell? ⟨w.heap.size, 10, none⟩ = some (.string F.y) ∧ w'.cell? ⟨w.heap.size, 11, none⟩ = some (.string F.z) ∧ w'.cell? ⟨b, o + m, none⟩ = some (.string f.str)) ((refine ck_held ?_ HK.out HX.out; (repeat (first | with_reducible exact HB6.out | with_reducible exact HB5.out | with_reducible exact Below.refl _ _ | with_reducible apply below_drew | with_reducible apply below_alloc | (with_reducible refine below_set ?_ (by first | with_reducible exact Nat.le_refl _ | with_reducible exact below_size HB5.out | with_reducible exact below_size HB6.out)))))) (first | (go_at_call 32; refine (refText_any F f text A3 c3 A5 c5 _ HW.out HT.out (Kd.C_below HR3.out (below_step HK.out.hb (by repeat (first | with_reducible exact Below.refl _ _ | with_reducible apply below_drew | with_reducible apply below_alloc | (with_reducible refine below_set ?_ (by first | with_reducible exact Nat.le_refl _ | with_reducible exact below_size HB5.out | with_reducible exact below_size HB6.out)))))) HC3.out (Kd.C_below HR5.out (below_step HK.out.hb (by repeat (first | with_reducible exact Below.refl _ _ | with_reducible apply below_drew | with_reducible apply below_alloc | (with_reducible refine below_set ?_ (by first | with_reducible exact Nat.le_refl _ | with_reducible exact below_size HB5.out | with_reducible exact below_size HB6.out)))))) HC5.out).mono ?_; rintro e5 w5 ⟨rfl, hb5⟩; have HB5 : Aside0 (Below wq.heap.size wq w5) := ⟨below_step (by repeat (first | with_reducible exact Below.refl _ _ | with_reducible apply below_drew | with_reducible apply below_alloc | (with_reducible refine below_set ?_ (by first | with_reducible exact Nat.le_refl _ | with_reducible exact below_size HB5.out | with_reducible exact below_size HB6.out)))) hb5⟩; (first | (have Y5 : w5.heap[wq.heap.size]? = some (.cells #[.string ⟨#[]⟩, .slice none 0 0] 27 (0, 0)) := blk_below (w := wq.drew.alloc (.cells #[.string ⟨#[]⟩, .slice none 0 0] 27)) (blk_new wq.drew _) hb5) | skip); clear hb5) | (go_at_call 38; refine (voussoirref28_Parse.calls k1p text p1 p2 p3 _ HP.out).mono ?_; rintro e6 w6 ⟨v1, rfl, hQ, hb6⟩; have HB6 : Aside0 (Below wq.heap.size wq w6) := ⟨below_step (by repeat (first | with_reducible exact HB5.out | with_reducible exact Below.refl _ _ | with_reducible apply below_drew | with_reducible apply below_alloc | (with_reducible refine below_set ?_ (by first | with_reducible exact Nat.le_refl _ | with_reducible exact below_size HB5.out | with_reducible exact below_size HB6.out)))) hb6⟩; obtain ⟨D9, g9, rfl, hle⟩ := Kd.Q_slice hQ; have HLE := Aside0.mk hle; have HQ6 := Aside0.mk hQ; (first | (have Y6 : w6.heap[wq.heap.size]? = some (.cells #[.string ⟨#[]⟩, .slice none 0 0] 27 (0, 0)) := blk_below Y5 hb6; have Y6a := (blk_cell Y6 0).trans (show _ = some (Value.string ⟨#[]⟩) from rfl); have Y6b := (blk_cell Y6 1).trans (show _ = some (Value.slice none 0 0) from rfl); have Y6c := blk_frozen Y6 0; have Y6d := blk_frozen Y6 1) | (have Y6 : w6.heap[w5.heap.size]? = some (.cells #[.string ⟨#[]⟩, .slice none 0 0] 27 (0, 0)) := blk_below (blk_new _ _) hb6; have Y6a := (blk_cell Y6 0).trans (show _ = some (Value.string ⟨#[]⟩) from rfl); have Y6b := (blk_cell Y6 1).trans (show _ = some (Value.slice none 0 0) from rfl); have Y6c := blk_frozen Y6 0; have Y6d := blk_frozen Y6 1) | skip); clear hb6 hQ hle))
               all_goals
                go_wp2_with fail
                go_meet
                first
                 | exact ⟨rfl, _, D9, g9, rfl, HLE, ⟨blk_put (blk_put Y6 0 _ rfl) 1 _ rfl⟩, ⟨(Kd.Q_reads' (Kd.Q_far (p := ⟨_, 1, none⟩) (Kd.Q_far (p := ⟨_, 0, none⟩) (Kd.Q_types HQ6.out Y6 (by decide)) (fun k hk => hk.2) _) (fun k hk => hk.2) _)).2.2⟩, ⟨by repeat (first | with_reducible exact HB6.out | with_reducible exact Below.refl _ _ | with_reducible apply below_drew | with_reducible apply below_alloc | (with_reducible refine below_set ?_ (by first | with_reducible exact Nat.le_refl _ | with_reducible exact below_size HB5.out | with_reducible exact below_size HB6.out)))⟩⟩
                 | exact ⟨rfl, _, D9, g9, rfl, HLE, ⟨blk_new _ _⟩, ⟨Kd.C_alloc (Kd.Q_reads' HQ6.out).2.2 _⟩, ⟨below_alloc HB6.out _⟩⟩
              case rest =>
               obtain ⟨rfl, b9, D9, g9, rfl, HLE, HB9, HC9, HBW⟩ := hcut
               have HKc := Aside0.mk (HK.out.below HBW.out)
               have H2c := Aside0.mk (below_step H2.out HBW.out)
               have HXc := Aside0.mk ((HBW.out.cell (World.block_lt_of_cell? _ _ HX.out)).trans HX.out)
               clear HK H2 HX HBW HP
               have hbe := HBE.out
               clear HBE
               cases p3 with
               | false =>
                have he := HE.out
                rw [← hbe] at he
                simp only [Bool.false_and, Bool.not_false, if_true] at he
                obtain rfl := Option.some.inj he
                have hs := HS2.out
                rw [if_neg (by decide)] at hs
                obtain rfl := Option.some.inj hs
                clear hs he HE HS2 hbe
                go_upto_region 19 with fail
                refine wp_region_held_drew (S := (fun w' => CS F (.slice A3 F.onA.length c3) (.slice A5 F.andA.length c5) w.heap.size b (o + m) f.str w' ∧ w'.cell? ⟨b9, 0, none⟩ = some (.string p1) ∧ w'.cell? ⟨b9, 1, none⟩ = some (.slice D9 p2.length g9))) (by kernel_rfl) ?_ (fun hHeld => ?_)
                · (refine ⟨ck_held ?_ HKc.out HXc.out, ck_two ?_ HB9.out⟩ <;> (repeat (first | with_reducible exact HB6.out | with_reducible exact HB5.out | with_reducible exact Below.refl _ _ | with_reducible apply below_drew | with_reducible apply below_alloc)))
                iterate 3 (refine tkW (v := ?_) ?_ ?_; rotate_left; (intro w hSw; (try dsimp only at hSw); unfold CS at hSw; go_simp; try with_reducible rfl); try simp only [Act.put, List.setIfInBounds_toArray, List.set_cons_zero, List.set_cons_succ])
                iterate 9 (refine tkN ?_; try simp only [Act.put, List.setIfInBounds_toArray, List.set_cons_zero, List.set_cons_succ])
                iterate 1 (refine tkW (v := ?_) ?_ ?_; rotate_left; (intro w hSw; (try dsimp only at hSw); unfold CS at hSw; go_simp; try with_reducible rfl); try simp only [Act.put, List.setIfInBounds_toArray, List.set_cons_zero, List.set_cons_succ])
                refine wpAnyH_done (by kernel_rfl) ?_ _
                go_wp2_with fail
                go_ret
                exact ⟨rfl, below_drew HKc.out.hb⟩
               | true =>
                obtain ⟨x, hx⟩ : ∃ x, x = (decide (p1 = F.refT f) && decide (p2 = F.refA f)) := ⟨_, rfl⟩
                have hse := sameRef_f' p1 (F.refT f) p2 (F.refA f) (HC9.out.2.1) (Nat.le_trans (Nat.le_of_lt (refA_lt HW.out f)) (by decide))
                rw [← hx] at hse
                have HSE := Aside0.mk hse
                rw [Bool.true_and, ← hx] at hbe
                have he := HE.out
                rw [← hbe] at he
                have HE3 := Aside0.mk he
                clear hse hbe he HE hx
                go_upto_region 19 with fail
                refine wp_region_held_drew (S := (fun w' => CS F (.slice A3 F.onA.length c3) (.slice A5 F.andA.length c5) w.heap.size b (o + m) f.str w' ∧ w'.cell? ⟨b9, 0, none⟩ = some (.string p1) ∧ w'.cell? ⟨b9, 1, none⟩ = some (.slice D9 p2.length g9))) (by kernel_rfl) ?_ (fun hHeld => ?_)
                · (refine ⟨ck_held ?_ HKc.out HXc.out, ck_two ?_ HB9.out⟩ <;> (repeat (first | with_reducible exact HB6.out | with_reducible exact HB5.out | with_reducible exact Below.refl _ _ | with_reducible apply below_drew | with_reducible apply below_alloc)))
                iterate 9 (refine tkW (v := ?_) ?_ ?_; rotate_left; (intro w hSw; (try dsimp only at hSw); unfold CS at hSw; go_simp; try with_reducible rfl); try simp only [Act.put, List.setIfInBounds_toArray, List.set_cons_zero, List.set_cons_succ])
                refine wpAnyH_ready (rs := [9]) (by kernel_rfl) (by simp) (AllReadyH.cons rfl (fun K hK => ?_) AllReadyH.nil)
                rw [if_pos (by rfl)]
                go_simp
                go_at_call 37; refine (refRef_any' F f HREF.out A3 c3 A5 c5 _).mono ?_; rintro e5 w5 ⟨rfl, hb5⟩; have HB5 : Aside0 (Below wc.heap.size wc w5) := ⟨below_step (by repeat (first | with_reducible exact Below.refl _ _ | with_reducible apply below_drew | with_reducible apply below_alloc)) hb5⟩; clear hb5
                refine hK.out _ _ ?_ (fun hHeld2 => ?_)
                · (refine ⟨ck_held ?_ HKc.out HXc.out, ck_two ?_ HB9.out⟩ <;> (repeat (first | with_reducible exact HB6.out | with_reducible exact HB5.out | with_reducible exact Below.refl _ _ | with_reducible apply below_drew | with_reducible apply below_alloc)))
                clear hK K hHeld; have hHeld := hHeld2; clear hHeld2
                try simp only [Act.put, List.setIfInBounds_toArray, List.set_cons_zero, List.set_cons_succ]
                refine wpAnyH_ready (rs := [10]) (by kernel_rfl) (by simp) (AllReadyH.cons rfl (fun K hK => ?_) AllReadyH.nil)
                rw [if_pos (by rfl)]
                go_simp
                go_at_call 30; refine (voussoirref30_SameRef.calls _ p1 D9 g9 p2 (F.refT f) (fA f A3 A5) (fC f c3 c5) (F.refA f) x _ (Kd.C_below HC9.out (by repeat (first | with_reducible exact HB5.out | with_reducible exact Below.refl _ _ | with_reducible apply below_drew | with_reducible apply below_alloc))) HLE.out (Kd.C_below (fA_C HR3.out HR5.out) (below_step HKc.out.hb (by repeat (first | with_reducible exact HB5.out | with_reducible exact Below.refl _ _ | with_reducible apply below_drew | with_reducible apply below_alloc)))) (fC_le HC3.out HC5.out) HSE.out).mono ?_; rintro e6 w6 ⟨rfl, hb6⟩; have HB6 : Aside0 (Below wc.heap.size wc w6) := ⟨below_step (by repeat (first | with_reducible exact HB5.out | with_reducible exact Below.refl _ _ | with_reducible apply below_drew | with_reducible apply below_alloc)) hb6⟩; clear hb6
                refine hK.out _ _ ?_ (fun hHeld2 => ?_)
                · (refine ⟨ck_held ?_ HKc.out HXc.out, ck_two ?_ HB9.out⟩ <;> (repeat (first | with_reducible exact HB6.out | with_reducible exact HB5.out | with_reducible exact Below.refl _ _ | with_reducible apply below_drew | with_reducible apply below_alloc)))
                clear hK K hHeld; have hHeld := hHeld2; clear hHeld2
                try simp only [Act.put, List.setIfInBounds_toArray, List.set_cons_zero, List.set_cons_succ]
                iterate 2 (refine tkW (v := ?_) ?_ ?_; rotate_left; (intro w hSw; (try dsimp only at hSw); unfold CS at hSw; go_simp; try with_reducible rfl); try simp only [Act.put, List.setIfInBounds_toArray, List.set_cons_zero, List.set_cons_succ])
                refine wpAnyH_done (by kernel_rfl) ?_ _
                have HKd := Aside0.mk (HKc.out.below HB6.out)
                have H2d := Aside0.mk (below_step H2c.out HB6.out)
                have he := HE3.out
                clear HE3
                cases x with
                | false =>
                 simp only [Bool.not_false, if_true] at he
                 obtain rfl := Option.some.inj he
                 have hs := HS2.out
                 rw [if_neg (by decide)] at hs
                 obtain rfl := Option.some.inj hs
                 clear hs he HS2
                 go_wp2_with fail
                 go_ret
                 exact ⟨rfl, HKd.out.hb⟩
                | true =>
                 rw [if_neg (by decide)] at he
                 have HE4 := Aside0.mk he
                 clear he
                 go_wp2_with fail
                 go_meet
                 exact ⟨HKd, H2d, HE4⟩
            case rest =>
             obtain ⟨HK', H2', HL⟩ := hcut
             have hx' : wc.cell? ⟨b, o + m, none⟩ = some (.string f.str) := (H2'.out.cell (p := ⟨b, o + m, none⟩) (World.block_lt_of_cell? _ _ (HOWN.out m f HF.out))).trans (HOWN.out m f HF.out)
             have HX' := Aside0.mk hx'
             clear hx' HK H2 HX HBAD HE
             have hl := HL.out
             unfold lastOf at hl
             have hs := HS2.out
             clear HL HS2
             cases hem : text.toList.isEmpty with
             | true =>
              have hem2 : (text.toList == []) = true := by rw [← hem]; cases text.toList <;> rfl
              rw [hem, if_pos rfl] at hl
              obtain rfl := Option.some.inj hl
              rw [if_neg (by decide)] at hs
              obtain rfl := Option.some.inj hs
              clear hs hl hem
              go_wp2_with fail
              refine wp_region_held_drew (S := (CS F (.slice A3 F.onA.length c3) (.slice A5 F.andA.length c5) w.heap.size b (o + m) f.str)) (by kernel_rfl) ?_ (fun hHeld => ?_)
              · (refine ck_held ?_ HK'.out HX'.out; (repeat (first | with_reducible exact HB5.out | with_reducible exact Below.refl _ _ | with_reducible apply below_drew | with_reducible apply below_alloc)))
              iterate 5 (refine tkW (v := ?_) ?_ ?_; rotate_left; (intro w hSw; (try dsimp only at hSw); unfold CS at hSw; go_simp; try with_reducible rfl); try simp only [Act.put, List.setIfInBounds_toArray, List.set_cons_zero, List.set_cons_succ])
              refine wpAnyH_ready (rs := [5]) (by kernel_rfl) (by simp) (AllReadyH.cons rfl (fun K hK => ?_) AllReadyH.nil)
              rw [if_pos (by rfl)]
              go_simp
              go_at_call 32; refine (refText_any F f text A3 c3 A5 c5 _ HW.out HT.out (Kd.C_below HR3.out (below_step HK'.out.hb (by repeat (first | with_reducible exact Below.refl _ _ | with_reducible apply below_drew | with_reducible apply below_alloc)))) HC3.out (Kd.C_below HR5.out (below_step HK'.out.hb (by repeat (first | with_reducible exact Below.refl _ _ | with_reducible apply below_drew | with_reducible apply below_alloc)))) HC5.out).mono ?_; rintro e5 w5 ⟨rfl, hb5⟩; have HB5 : Aside0 (Below wc.heap.size wc w5) := ⟨below_step (by repeat (first | with_reducible exact Below.refl _ _ | with_reducible apply below_drew | with_reducible apply below_alloc)) hb5⟩; clear hb5
              refine hK.out _ _ ?_ (fun hHeld2 => ?_)
              · (refine ck_held ?_ HK'.out HX'.out; (repeat (first | with_reducible exact HB5.out | with_reducible exact Below.refl _ _ | with_reducible apply below_drew | with_reducible apply below_alloc)))
              clear hK K hHeld; have hHeld := hHeld2; clear hHeld2
              try simp only [Act.put, List.setIfInBounds_toArray, List.set_cons_zero, List.set_cons_succ]
              iterate 1 (refine tkW (v := ?_) ?_ ?_; rotate_left; (intro w hSw; (try dsimp only at hSw); unfold CS at hSw; go_simp; try with_reducible rfl); try simp only [Act.put, List.setIfInBounds_toArray, List.set_cons_zero, List.set_cons_succ])
              refine wpAnyH_done (by kernel_rfl) ?_ _
              have HK5 := Aside0.mk (HK'.out.below HB5.out)
              go_wp2_with fail
              go_ret
              exact ⟨rfl, HK5.out.hb⟩
             | false =>
              have hem2 : (text.toList == []) = false := by rw [← hem]; cases text.toList <;> rfl
              rw [hem, if_neg Bool.false_ne_true] at hl
              have HL := Aside0.mk hl
              have HS := Aside0.mk hs
              clear hl hs hem
              go_wp2_with fail
              refine wp_region_held_drew (S := (CS F (.slice A3 F.onA.length c3) (.slice A5 F.andA.length c5) w.heap.size b (o + m) f.str)) (by kernel_rfl) ?_ (fun hHeld => ?_)
              · (refine ck_held ?_ HK'.out HX'.out; (repeat (first | with_reducible exact HB5.out | with_reducible exact Below.refl _ _ | with_reducible apply below_drew | with_reducible apply below_alloc)))
              iterate 5 (refine tkW (v := ?_) ?_ ?_; rotate_left; (intro w hSw; (try dsimp only at hSw); unfold CS at hSw; go_simp; try with_reducible rfl); try simp only [Act.put, List.setIfInBounds_toArray, List.set_cons_zero, List.set_cons_succ])
              refine wpAnyH_ready (rs := [5]) (by kernel_rfl) (by simp) (AllReadyH.cons rfl (fun K hK => ?_) AllReadyH.nil)
              rw [if_pos (by rfl)]
              go_simp
              go_at_call 32; refine (refText_any F f text A3 c3 A5 c5 _ HW.out HT.out (Kd.C_below HR3.out (below_step HK'.out.hb (by repeat (first | with_reducible exact Below.refl _ _ | with_reducible apply below_drew | with_reducible apply below_alloc)))) HC3.out (Kd.C_below HR5.out (below_step HK'.out.hb (by repeat (first | with_reducible exact Below.refl _ _ | with_reducible apply below_drew | with_reducible apply below_alloc)))) HC5.out).mono ?_; rintro e5 w5 ⟨rfl, hb5⟩; have HB5 : Aside0 (Below wc.heap.size wc w5) := ⟨below_step (by repeat (first | with_reducible exact Below.refl _ _ | with_reducible apply below_drew | with_reducible apply below_alloc)) hb5⟩; clear hb5
              refine hK.out _ _ ?_ (fun hHeld2 => ?_)
              · (refine ck_held ?_ HK'.out HX'.out; (repeat (first | with_reducible exact HB5.out | with_reducible exact Below.refl _ _ | with_reducible apply below_drew | with_reducible apply below_alloc)))
              clear hK K hHeld; have hHeld := hHeld2; clear hHeld2
              try simp only [Act.put, List.setIfInBounds_toArray, List.set_cons_zero, List.set_cons_succ]
              iterate 1 (refine tkW (v := ?_) ?_ ?_; rotate_left; (intro w hSw; (try dsimp only at hSw); unfold CS at hSw; go_simp; try with_reducible rfl); try simp only [Act.put, List.setIfInBounds_toArray, List.set_cons_zero, List.set_cons_succ])
              refine wpAnyH_done (by kernel_rfl) ?_ _
              have HK5 := Aside0.mk (HK'.out.below HB5.out)
              have H25 := Aside0.mk (below_step H2'.out HB5.out)
              have HX5 := Aside0.mk ((HB5.out.cell (World.block_lt_of_cell? _ _ HX'.out)).trans HX'.out)
              clear hem2 hHeld HB5 HK' H2' HX'
              by_cases hz : 2000 < text.size
              · have hz2 : ((2000 : Int) < (text.size : Int)) = True := eq_true (by omega)
                have hl := HL.out
                rw [if_pos hz] at hl
                obtain rfl := Option.some.inj hl
                have hs := HS.out
                rw [if_neg (by decide)] at hs
                obtain rfl := Option.some.inj hs
                clear hs hl HL HS hz
                go_wp2_with fail
                refine wp_region_held_drew (S := (CS F (.slice A3 F.onA.length c3) (.slice A5 F.andA.length c5) w.heap.size b (o + m) f.str)) (by kernel_rfl) ?_ (fun hHeld => ?_)
                · (refine ck_held ?_ HK5.out HX5.out; (repeat (first | with_reducible exact HB6.out | with_reducible exact Below.refl _ _ | with_reducible apply below_drew | with_reducible apply below_alloc)))
                iterate 5 (refine tkW (v := ?_) ?_ ?_; rotate_left; (intro w hSw; (try dsimp only at hSw); unfold CS at hSw; go_simp; try with_reducible rfl); try simp only [Act.put, List.setIfInBounds_toArray, List.set_cons_zero, List.set_cons_succ])
                refine wpAnyH_ready (rs := [5]) (by kernel_rfl) (by simp) (AllReadyH.cons rfl (fun K hK => ?_) AllReadyH.nil)
                rw [if_pos (by rfl)]
                go_simp
                go_at_call 32; refine (refText_any F f text A3 c3 A5 c5 _ HW.out HT.out (Kd.C_below HR3.out (below_step HK5.out.hb (by repeat (first | with_reducible exact Below.refl _ _ | with_reducible apply below_drew | with_reducible apply below_alloc)))) HC3.out (Kd.C_below HR5.out (below_step HK5.out.hb (by repeat (first | with_reducible exact Below.refl _ _ | with_reducible apply below_drew | with_reducible apply below_alloc)))) HC5.out).mono ?_; rintro e5 w6 ⟨rfl, hb5⟩; have HB6 : Aside0 (Below w5.heap.size w5 w6) := ⟨below_step (by repeat (first | with_reducible exact Below.refl _ _ | with_reducible apply below_drew | with_reducible apply below_alloc)) hb5⟩; clear hb5
                refine hK.out _ _ ?_ (fun hHeld2 => ?_)
                · (refine ck_held ?_ HK5.out HX5.out; (repeat (first | with_reducible exact HB6.out | with_reducible exact Below.refl _ _ | with_reducible apply below_drew | with_reducible apply below_alloc)))
                clear hK K hHeld; have hHeld := hHeld2; clear hHeld2
                try simp only [Act.put, List.setIfInBounds_toArray, List.set_cons_zero, List.set_cons_succ]
                iterate 2 (refine tkW (v := ?_) ?_ ?_; rotate_left; (intro w hSw; (try dsimp only at hSw); unfold CS at hSw; go_simp; try with_reducible rfl); try simp only [Act.put, List.setIfInBounds_toArray, List.set_cons_zero, List.set_cons_succ])
                refine wpAnyH_done (by kernel_rfl) ?_ _
                have HK6 := Aside0.mk (HK5.out.below HB6.out)
                go_wp2_with fail
                go_ret
                exact ⟨rfl, HK6.out.hb⟩
              · have hz2 : ((2000 : Int) < (text.size : Int)) = False := eq_false (by omega)
                have hl := HL.out
                rw [if_neg hz] at hl
                have HL2 := Aside0.mk hl
                clear hl HL hz
                go_wp2_with fail
                refine wp_region_held_drew (S := (CS F (.slice A3 F.onA.length c3) (.slice A5 F.andA.length c5) w.heap.size b (o + m) f.str)) (by kernel_rfl) ?_ (fun hHeld => ?_)
                · (refine ck_held ?_ HK5.out HX5.out; (repeat (first | with_reducible exact HB6.out | with_reducible exact Below.refl _ _ | with_reducible apply below_drew | with_reducible apply below_alloc)))
                iterate 5 (refine tkW (v := ?_) ?_ ?_; rotate_left; (intro w hSw; (try dsimp only at hSw); unfold CS at hSw; go_simp; try with_reducible rfl); try simp only [Act.put, List.setIfInBounds_toArray, List.set_cons_zero, List.set_cons_succ])
                refine wpAnyH_ready (rs := [5]) (by kernel_rfl) (by simp) (AllReadyH.cons rfl (fun K hK => ?_) AllReadyH.nil)
                rw [if_pos (by rfl)]
                go_simp
                go_at_call 32; refine (refText_any F f text A3 c3 A5 c5 _ HW.out HT.out (Kd.C_below HR3.out (below_step HK5.out.hb (by repeat (first | with_reducible exact Below.refl _ _ | with_reducible apply below_drew | with_reducible apply below_alloc)))) HC3.out (Kd.C_below HR5.out (below_step HK5.out.hb (by repeat (first | with_reducible exact Below.refl _ _ | with_reducible apply below_drew | with_reducible apply below_alloc)))) HC5.out).mono ?_; rintro e5 w6 ⟨rfl, hb5⟩; have HB6 : Aside0 (Below w5.heap.size w5 w6) := ⟨below_step (by repeat (first | with_reducible exact Below.refl _ _ | with_reducible apply below_drew | with_reducible apply below_alloc)) hb5⟩; clear hb5
                refine hK.out _ _ ?_ (fun hHeld2 => ?_)
                · (refine ck_held ?_ HK5.out HX5.out; (repeat (first | with_reducible exact HB6.out | with_reducible exact Below.refl _ _ | with_reducible apply below_drew | with_reducible apply below_alloc)))
                clear hK K hHeld; have hHeld := hHeld2; clear hHeld2
                try simp only [Act.put, List.setIfInBounds_toArray, List.set_cons_zero, List.set_cons_succ]
                iterate 2 (refine tkW (v := ?_) ?_ ?_; rotate_left; (intro w hSw; (try dsimp only at hSw); unfold CS at hSw; go_simp; try with_reducible rfl); try simp only [Act.put, List.setIfInBounds_toArray, List.set_cons_zero, List.set_cons_succ])
                refine wpAnyH_done (by kernel_rfl) ?_ _
                have HK6 := Aside0.mk (HK5.out.below HB6.out)
                have H26 := Aside0.mk (below_step H25.out HB6.out)
                have hx6 := (HB6.out.cell (World.block_lt_of_cell? _ _ HX5.out)).trans HX5.out
                clear hz2 hHeld HB6 HK5 H25 HX5
                cases hsk : f.isSketch with
                | false =>
                 have hsk2 : (f.str.toList != [115, 107, 101, 116, 99, 104]) = true := by cases f <;> first | (cases hsk; done) | decide +kernel
                 have hsk3 : (f.str.toList == [115, 107, 101, 116, 99, 104]) = false := by cases f <;> first | (cases hsk; done) | decide +kernel
                 have hl := HL2.out
                 rw [hsk, if_neg Bool.false_ne_true] at hl
                 obtain rfl := Option.some.inj hl
                 have hs := HS.out
                 rw [if_pos rfl] at hs
                 have HS3 := Aside0.mk hs
                 clear hs hl HL2 HS hsk
                 go_wp2_with fail
                 go_roundw
                 case rel => (repeat apply Exists.intro); exact ⟨⟨m + 1, by go_num, by omega, HK6, H26, HS3⟩, rfl⟩
                 case measure => simp [RowKit.intOf]; omega
                | true =>
                 obtain rfl : f = .sketch := by cases f <;> first | (cases hsk; done) | rfl
                 have hsk3 : (X30.Fd.sketch.str.toList == [115, 107, 101, 116, 99, 104]) = true := by decide +kernel
                 have hsk2 : (X30.Fd.sketch.str.toList != [115, 107, 101, 116, 99, 104]) = false := by decide +kernel
                 obtain rfl : text = F.sketch := (Option.some.inj ((text_plain (F := F) (f := .sketch) rfl).symm.trans HT.out)).symm
                 have hl := HL2.out
                 rw [show X30.Fd.sketch.isSketch = true from rfl, if_pos rfl] at hl
                 obtain ⟨km, ⟨g1, g2⟩, hkm, hkp⟩ : ∃ km p, voussoirref27_Make.f km F.id F.sketch 0 = some p ∧ ∀ k q, facename_New.f k F.id F.sketch 0 = some q → q = p := by
                  have h1 : F.id.size ≤ 100000 := by have := HW.out; unfold FT.wt at this; omega
                  have h2 : F.sketch.size ≤ 100000 := by have := HW.out; unfold FT.wt at this; omega
                  obtain ⟨km, hkm⟩ := (make_ev F.id F.sketch 0 h1 h2).rounds
                  exact ⟨km, _, hkm, fun k q hq => ev_one (Ev.of (fun k => facename_New.mono _ _ _ k) hq) (new_ev F.id F.sketch 0 h1 h2)⟩
                 have HKM := Aside0.mk hkm
                 have HL3 := Aside0.mk (show (if F.kind = 7 ∧ F.sketch.toList ≠ [120] ∧ F.sketch.toList ≠ [121] ∧ F.sketch.toList ≠ [122] then (3 : Int) else if F.kind = 8 ∧ g2 ≠ 0 then 3 else 0) = e from by
                  by_cases h7 : F.kind = 7 ∧ F.sketch.toList ≠ [120] ∧ F.sketch.toList ≠ [121] ∧ F.sketch.toList ≠ [122]
                  · rw [if_pos h7] at hl ⊢; exact Option.some.inj hl
                  · rw [if_neg h7] at hl ⊢
                    by_cases h8 : F.kind = 8
                    · rw [if_pos h8] at hl
                      obtain ⟨q, hq, hr⟩ := Option.map_eq_some_iff.1 hl
                      have := hkp _ _ hq
                      subst this
                      by_cases hg : g2 = 0
                      · rw [if_neg (fun h => h.2 hg)]; rw [if_pos hg] at hr; exact hr
                      · rw [if_pos ⟨h8, hg⟩]; rw [if_neg hg] at hr; exact hr
                    · rw [if_neg h8] at hl; rw [if_neg (fun h => h8 h.1)]; exact Option.some.inj hl)
                 clear hl HL2 hkm hkp hsk
                 obtain ⟨q0, q1, q2, q3, q4, q5, q6, q7, q8, q9, q10, q11⟩ := HK6.out.cells
                 clear q2 q3 q4 q5 q7 q8 q9 q10 q11
                 obtain ⟨bad7, hbad7⟩ : ∃ b7, b7 = decide (F.kind = 7 ∧ F.sketch.toList ≠ [120] ∧ F.sketch.toList ≠ [121] ∧ F.sketch.toList ≠ [122]) := ⟨_, rfl⟩
                 have HB7 := Aside0.mk hbad7
                 clear hbad7
                 go_upto_region 26 with fail
                 go_cut [143] (fun c wx => c = .bool bad7 ∧ wx = w6)
                 case first =>
                  by_cases h7 : F.kind = 7
                  · have k7 : (F.kind == 7) = true := beq_iff_eq.2 h7
                    by_cases tx : F.sketch.toList = [120]
                    · have tx1 : (F.sketch.toList == [120]) = true := beq_iff_eq.2 tx
                      have tx2 : (F.sketch.toList != [120]) = false := by rw [bne, tx1]; rfl
                      have HB8 := Aside0.mk (show bad7 = false by rw [HB7.out]; exact decide_eq_false (fun h => h.2.1 tx))
                      clear h7 tx
                      go_wp2_with fail
                      go_meet
                      exact ⟨by rw [HB8.out], rfl⟩
                    · have tx1 : (F.sketch.toList == [120]) = false := beq_eq_false_iff_ne.2 tx
                      have tx2 : (F.sketch.toList != [120]) = true := by rw [bne, tx1]; rfl
                      by_cases ty : F.sketch.toList = [121]
                      · have ty1 : (F.sketch.toList == [121]) = true := beq_iff_eq.2 ty
                        have ty2 : (F.sketch.toList != [121]) = false := by rw [bne, ty1]; rfl
                        have HB8 := Aside0.mk (show bad7 = false by rw [HB7.out]; exact decide_eq_false (fun h => h.2.2.1 ty))
                        clear h7 tx ty
                        go_wp2_with fail
                        go_meet
                        exact ⟨by rw [HB8.out], rfl⟩
                      · have ty1 : (F.sketch.toList == [121]) = false := beq_eq_false_iff_ne.2 ty
                        have ty2 : (F.sketch.toList != [121]) = true := by rw [bne, ty1]; rfl
                        by_cases tz : F.sketch.toList = [122]
                        · have tz1 : (F.sketch.toList == [122]) = true := beq_iff_eq.2 tz
                          have tz2 : (F.sketch.toList != [122]) = false := by rw [bne, tz1]; rfl
                          have HB8 := Aside0.mk (show bad7 = false by rw [HB7.out]; exact decide_eq_false (fun h => h.2.2.2 tz))
                          clear h7 tx ty tz
                          go_wp2_with fail
                          go_meet
                          exact ⟨by rw [HB8.out], rfl⟩
                        · have tz1 : (F.sketch.toList == [122]) = false := beq_eq_false_iff_ne.2 tz
                          have tz2 : (F.sketch.toList != [122]) = true := by rw [bne, tz1]; rfl
                          have HB8 := Aside0.mk (show bad7 = true by rw [HB7.out]; exact decide_eq_true ⟨h7, tx, ty, tz⟩)
                          clear h7 tx ty tz
                          go_wp2_with fail
                          go_meet
                          exact ⟨by rw [HB8.out], rfl⟩
                  · have k7 : (F.kind == 7) = false := beq_eq_false_iff_ne.2 h7
                    have HB8 := Aside0.mk (show bad7 = false by rw [HB7.out]; exact decide_eq_false (fun h => h7 h.1))
                    clear h7
                    go_wp2_with fail
                    go_meet
                    exact ⟨by rw [HB8.out], rfl⟩
                 case rest =>
                  obtain ⟨rfl, rfl⟩ := hcut
                  cases hb7 : bad7 with
                  | true =>
                   have h7 := of_decide_eq_true (HB7.out.symm.trans hb7)
                   have hl := HL3.out
                   rw [if_pos h7] at hl
                   subst hl
                   have hs := HS.out
                   rw [if_neg (by decide)] at hs
                   obtain rfl := Option.some.inj hs
                   clear hs HS HL3 h7 HB7 hb7
                   go_wp2_with fail
                   go_ret
                   exact ⟨rfl, HK6.out.hb⟩
                  | false =>
                   have h7 := of_decide_eq_false (HB7.out.symm.trans hb7)
                   have hl := HL3.out
                   rw [if_neg h7] at hl
                   have HL4 := Aside0.mk hl
                   clear hl HL3 h7 HB7 hb7
                   go_wp2_with fail
                   refine (voussoirref27_Make.calls km F.id F.sketch 0 g1 g2 _ HKM.out).mono ?_
                   rintro e7 w7 ⟨rfl, hb7⟩
                   have HK7 := Aside0.mk (HK6.out.below hb7)
                   have H27 := Aside0.mk (below_step H26.out hb7)
                   have z1 : w7.cell? ⟨w.heap.size, 1, none⟩ = some (.int .i64 F.kind) := (blk_cell HK7.out.blk 1).trans rfl
                   clear hb7 HK6 H26 q0 q1 q6 hx6
                   by_cases h8 : F.kind = 8 ∧ g2 ≠ 0
                   · have hl := HL4.out
                     rw [if_pos h8] at hl
                     subst hl
                     have hs := HS.out
                     rw [if_neg (by decide)] at hs
                     obtain rfl := Option.some.inj hs
                     have k8 : (F.kind == 8) = true := beq_iff_eq.2 h8.1
                     have g8 : (g2 != 0) = true := bne_iff_ne.2 h8.2
                     clear hs HS HL4 h8
                     go_wp2_with fail
                     go_ret
                     exact ⟨rfl, HK7.out.hb⟩
                   · have hl := HL4.out
                     rw [if_neg h8] at hl
                     subst hl
                     have hs := HS.out
                     rw [if_pos rfl] at hs
                     have HS3 := Aside0.mk hs
                     clear hs HS HL4
                     by_cases k8 : F.kind = 8
                     · obtain rfl : g2 = 0 := Classical.byContradiction fun h => h8 ⟨k8, h⟩
                       have k82 : (F.kind == 8) = true := beq_iff_eq.2 k8
                       clear h8 k8
                       go_wp2_with fail
                       go_roundw
                       case rel => (repeat apply Exists.intro); exact ⟨⟨m + 1, by go_num, by omega, HK7, H27, HS3⟩, rfl⟩
                       case measure => simp [RowKit.intOf]; omega
                     · have k82 : (F.kind == 8) = false := beq_eq_false_iff_ne.2 k8
                       clear h8 k8
                       go_wp2_with fail
                       go_roundw
                       case rel => (repeat apply Exists.intro); exact ⟨⟨m + 1, by go_num, by omega, HK7, H27, HS3⟩, rfl⟩
                       case measure => simp [RowKit.intOf]; omega
         · have hs := HS.out
           rw [List.drop_eq_nil_of_le (by omega), soundAll] at hs
           obtain rfl := Option.some.inj hs
           clear hs HS
           go_wp2_with fail
           go_ret
           exact ⟨rfl, HK.out.hb⟩
   · rw [if_neg hk] at hh
     obtain rfl := Option.some.inj hh
     have hk2 : ¬ (1 ≤ kk ∧ kk ≤ 8) := by rw [HKK.out]; exact hk
     clear hh hk HH
     go_wp2_with fail
     refine (has_no kk hk2 _).mono ?_
     rintro e2 w2 ⟨rfl, hb2⟩
     go_wp2_with fail
     go_ret
     exact ⟨rfl, below_step HK1.out.hb hb2⟩
 · have hh := HH.out
   rw [if_neg hz] at hh
   obtain rfl := Option.some.inj hh
   have hz2 : (n2 != 0) = true := bne_iff_ne.2 hz
   clear hh hz HH
   go_wp2_with fail
   go_ret
   exact ⟨rfl, HK1.out.hb⟩
end Go.Proofs.YtoccbcfjbingbaaGreatDoor.X30

namespace Go.Proofs.YtoccbcfjbingbaaGreatDoor.X30
open Go hiding Fd
open Go.RowKit Go.Shelf Go.Lib Go.Proofs.YtoccbcfjbingbaaGreatDoorW.PrintWords Go.Proofs.YtoccbcfjbingbaaGreatDoorW.PrintLast Go.Proofs.YtoccbcfjbingbaaGreatDoorW.PrintMore Go.Proofs.YtoccbcfjbingbaaGreatDoor.P30 Go.Proofs.YtoccbcfjbingbaaGreatDoor.P27 Go.Proofs.Facename
set_option linter.unusedVariables false
set_option linter.unusedSimpArgs false
theorem names_at (n : Nat) (hn : n < 8) : ∃ l, voussoirref30_names.f = some l ∧ n < l.length ∧ rdOf ByteArray.empty l (n : Int) = (kAt n).1 := by
 match n, hn with
 | 0, _ | 1, _ | 2, _ | 3, _ | 4, _ | 5, _ | 6, _ | 7, _ => exact ⟨_, rfl, by decide, rfl⟩
end Go.Proofs.YtoccbcfjbingbaaGreatDoor.X30
