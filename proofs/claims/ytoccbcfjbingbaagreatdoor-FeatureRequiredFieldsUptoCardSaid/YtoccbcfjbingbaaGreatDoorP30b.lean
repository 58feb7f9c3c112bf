/- Check comes to an end at every feature whose texts are not too long; and what a feature that Check lets pass says of its fields. What a feature that Check lets pass says of its fields: each text, set again, gives back its field; and filling a feature with its own fields gives the feature. voussoirref30.Great, as a plain law: 1 exactly if the texts of a feature are together too long. What FromFields answers where a field of a sound feature is left out, given twice, or foreign. -/
import Derived.Test.YtoccbcfjbingbaaGreatDoorFeatG
import Derived.Test.YtoccbcfjbingbaaGreatDoorP27parse
import Derived.Test.YtoccbcfjbingbaaGreatDoorX30x18
namespace Go.Proofs.YtoccbcfjbingbaaGreatDoor.P30
open Go hiding Fd
open Go.RowKit Go.Lib Go.Proofs.YtoccbcfjbingbaaGreatDoorW.PrintWords Go.Proofs.YtoccbcfjbingbaaGreatDoorW.PrintLast Go.Proofs.YtoccbcfjbingbaaGreatDoor.X30 Go.Proofs.Facename Go.Proofs.YtoccbcfjbingbaaGreatDoor.P27
instance : DecidableEq X30.Fd := fun a b => if h : a.ix = b.ix then isTrue (by cases a <;> cases b <;> first | rfl | cases h) else isFalse (fun e => h (congrArg _ e))

theorem Ev.mapO {α β : Type} {g : Nat → Option α} {f : α → β} {a : α} (h : Ev g a) : Ev (fun n => (g n).map f) (f a) := by
  obtain ⟨K, h⟩ := h
  exact ⟨K, fun n hn => by show (g n).map f = _; rw [h n hn]; rfl⟩

/-! ### resolve.Parse comes to an end -/
theorem isTerm_ev (s : ByteArray) : ∃ b, Ev (fun k => resolve_isTerm.f k s) b := by
  obtain ⟨r, h, -⟩ := parse_ev s.size s (Nat.le_refl _)
  exact ⟨r.2.2.2.2 == 0, Ev.congr (fun k => rfl) (Ev.bind (f := fun _ (bt : ByteArray × ByteArray × Int × ByteArray × Int) => some (bt.2.2.2.2 == 0)) h (Ev.now _))⟩
theorem check_l0_ev (t : ByteArray) (l : List ByteArray) (hl : l.length < 4611686018427387904) : ∀ (m i : Nat), i + m = l.length → ∃ r, Ev (fun k => resolve_Check.l0 k l (l.length : Int) (i : Int) t l) r := by
  intro m
  induction m with
  | zero =>
    intro i hi
    refine ⟨0, 1, fun k hk => ?_⟩
    obtain ⟨k, rfl⟩ : ∃ n, k = n + 1 := ⟨k - 1, by omega⟩
    show resolve_Check.l0 (k + 1) l _ _ t l = _
    simp only [resolve_Check.l0]
    rw [if_neg (by omega)]
  | succ m ih =>
    intro i hi
    obtain ⟨r, hr⟩ := ih (i + 1) (by omega)
    obtain ⟨b, hb⟩ := isTerm_ev (rdOf ByteArray.empty l (i : Int))
    have hw : wrap64 ((i : Int) + 1) = ((i + 1 : Nat) : Int) := by unfold wrap64; omega
    have key : ∀ k, resolve_Check.l0 (k + 1) l (l.length : Int) (i : Int) t l = (resolve_isTerm.f k (rdOf ByteArray.empty l (i : Int))).bind fun b => if b = true then (if (i : Int) > 0 ∧ ¬ ((Op.bytesLess ((rdOf ByteArray.empty l (wrap64 ((i : Int) - 1))).toList) ((rdOf ByteArray.empty l (i : Int)).toList)) = true) then some 3 else resolve_Check.l0 k l (l.length : Int) ((i + 1 : Nat) : Int) t l) else some 3 := by
      intro k
      simp only [resolve_Check.l0]
      rw [if_pos (by omega), if_pos (by omega), if_pos (by omega)]
      congr 1
      funext b
      cases b with
      | false => rw [if_neg Bool.false_ne_true, if_neg Bool.false_ne_true]
      | true =>
        simp only [if_true, hw]
        by_cases h0 : (i : Int) > 0
        · have h1 : wrap64 ((i : Int) - 1) = (i : Int) - 1 := by unfold wrap64; omega
          rw [if_pos h0, if_pos (by omega), if_pos (by omega)]
          by_cases hL : (Op.bytesLess ((rdOf ByteArray.empty l (wrap64 ((i : Int) - 1))).toList) ((rdOf ByteArray.empty l (i : Int)).toList)) = true
          · rw [if_pos hL, if_neg (fun h => h.2 hL)]
          · rw [if_neg hL, if_pos ⟨h0, hL⟩]
        · rw [if_neg h0, if_neg (fun h => h0 h.1)]
    cases b with
    | false => exact ⟨3, Ev.step key (Ev.bind hb (Ev.now _))⟩
    | true =>
      by_cases hc : (i : Int) > 0 ∧ ¬ ((Op.bytesLess ((rdOf ByteArray.empty l (wrap64 ((i : Int) - 1))).toList) ((rdOf ByteArray.empty l (i : Int)).toList)) = true)
      · exact ⟨3, Ev.step key (Ev.bind hb (by simp only [if_true, if_pos hc]; exact Ev.now _))⟩
      · exact ⟨r, Ev.step key (Ev.bind hb (by simp only [if_true, if_neg hc]; exact hr))⟩
theorem check_j0_ev (t : ByteArray) (l : List ByteArray) (hl : l.length < 4611686018427387904) (b : Bool) : ∃ r, Ev (fun k => resolve_Check.j0 k b t l) r := by
  cases b with
  | true => exact ⟨3, Ev.step (f := fun _ => some 3) (fun k => by simp only [resolve_Check.j0, if_true]) (Ev.now _)⟩
  | false =>
    obtain ⟨r, hr⟩ := check_l0_ev t l hl l.length 0 (by omega)
    exact ⟨r, Ev.step (f := fun k => resolve_Check.l0 k l (l.length : Int) ((0 : Nat) : Int) t l) (fun k => by simp only [resolve_Check.j0, Bool.false_eq_true, if_false]; rfl) hr⟩
theorem checkRef_ev (t : ByteArray) (l : List ByteArray) (hl : l.length < 4611686018427387904) : ∃ r, Ev (fun k => resolve_Check.f k t l) r := by
  by_cases h : t.toList = ([103, 114, 111, 117, 110, 100] : List UInt8)
  · obtain ⟨r, hr⟩ := check_j0_ev t l hl false
    exact ⟨r, Ev.congr (fun k => by unfold resolve_Check.f; rw [if_pos h]) hr⟩
  · obtain ⟨b, hb⟩ := isTerm_ev t
    obtain ⟨r, hr⟩ := check_j0_ev t l hl (!b)
    exact ⟨r, Ev.congr (fun k => by unfold resolve_Check.f; rw [if_neg h]) (Ev.bind (f := fun k t148 => resolve_Check.j0 k (!t148) t l) hb hr)⟩
theorem parseRef_ev (s : ByteArray) (hs : s.size < 4294967281) : ∃ r, Ev (fun k => resolve_Parse.f k s) r := by
  have hl := splitB_len s ⟨#[124]⟩ (by decide)
  have hc := countB_le ⟨#[124]⟩ (by decide) s.size s (Nat.le_refl _)
  have hsp : strings_Split.f s ⟨#[124]⟩ = some (splitB ⟨#[124]⟩ 0 (countB s ⟨#[124]⟩) s) := by unfold strings_Split.f; rw [if_pos ⟨hs, by decide⟩]
  obtain ⟨t, rest, e⟩ : ∃ t rest, splitB ⟨#[124]⟩ 0 (countB s ⟨#[124]⟩) s = t :: rest := by
    cases h : splitB ⟨#[124]⟩ 0 (countB s ⟨#[124]⟩) s with
    | nil => rw [h] at hl; simp at hl
    | cons t rest => exact ⟨t, rest, rfl⟩
  rw [e] at hl hsp
  obtain ⟨r, hr⟩ := checkRef_ev t rest (by simp at hl; omega)
  exact ⟨_, Ev.congr (fun k => by unfold resolve_Parse.f; rw [hsp, Option.bind_some]) (Ev.bind (f := fun _ e => if e = 0 then some (t, rest, true) else some (⟨#[]⟩, [], false)) hr (a := r) (r := if r = 0 then (t, rest, true) else (⟨#[]⟩, [], false)) (by by_cases h : r = 0 <;> simp only [h, if_true, if_false] <;> exact Ev.now _))⟩

/-! ### sizes -/
def wt (l : List ByteArray) : Nat := (l.map fun s => s.size + 1).sum
def FT.wt (F : FT) : Nat := F.id.size + F.onT.size + F.andT.size + F.sketch.size + F.amount.size + F.count.size + F.x.size + F.y.size + F.z.size + P30.wt F.onA + P30.wt F.andA
theorem wt_cons (s : ByteArray) (l : List ByteArray) : wt (s :: l) = s.size + 1 + wt l := by unfold wt; simp
theorem wt_length (l : List ByteArray) : l.length ≤ wt l := by
  induction l with
  | nil => simp
  | cons s l ih => rw [wt_cons]; simp only [List.length_cons]; omega
theorem lens_wt (l : List ByteArray) : lens (l.map (·.data.toList)) + l.length = wt l := by
  induction l with
  | nil => rfl
  | cons s l ih =>
    rw [wt_cons]
    have := size_list s
    simp only [List.map_cons, List.length_cons, lens, List.sum_cons, List.map_cons] at ih ⊢
    omega
theorem format_some (t : ByteArray) (l : List ByteArray) (h : t.size + wt l ≤ 100000) : resolve_Format.f t l = some ⟨(join ((t :: l).map (·.data.toList)) [124]).toArray⟩ ∧ (join ((t :: l).map (·.data.toList)) [124]).length ≤ t.size + wt l := by
  have e : (join ((t :: l).map (·.data.toList)) [124]).length ≤ t.size + wt l := by
    rw [List.map_cons, join_length]
    have := lens_wt l
    have := size_list t
    simp only [lens, List.map_cons, List.sum_cons, List.length_map, List.length_cons, List.length_nil] at *
    omega
  have := wt_length l
  refine ⟨?_, e⟩
  unfold resolve_Format.f
  simp only [Option.bind_some, List.length_cons, List.length_nil]
  rw [if_pos (by omega)]
  unfold strings_Join.f
  have hx : ([t] ++ l) = t :: l := rfl
  rw [hx, show (⟨#[124]⟩ : ByteArray).data.toList = [124] from rfl, if_pos ⟨by omega, by simp only [List.length_cons]; omega⟩]
  rfl
theorem text_some (F : FT) (f : X30.Fd) (h : FT.wt F ≤ 10000) : ∃ t, textOf F f = some t ∧ t.size ≤ 10000 := by
  have h1 : ∀ t l, t.size + wt l ≤ 10000 → ∃ r, resolve_Format.f t l = some r ∧ r.size ≤ 10000 := fun t l hl => by
    obtain ⟨e1, e2⟩ := format_some t l (by omega)
    exact ⟨_, e1, by rw [P27.size_mk]; omega⟩
  unfold FT.wt at h
  unfold textOf
  cases f
  case on => exact h1 F.onT F.onA (by omega)
  case and => exact h1 F.andT F.andA (by omega)
  all_goals exact ⟨_, rfl, by simp only [FT.plain]; omega⟩

/-! ### Check comes to an end -/
theorem sound_ev (F : FT) (f : X30.Fd) (h : FT.wt F ≤ 10000) : ∃ r, Ev (fun k => soundOf k F f) r := by
  obtain ⟨t, ht, hs⟩ := text_some F f h
  have hid : F.id.size ≤ 10000 := by unfold FT.wt at h; omega
  obtain ⟨bad, hbad⟩ : ∃ b, Ev (fun k => badOf k F f t) b := by
    unfold badOf
    cases f.isRef with
    | true =>
      obtain ⟨r, hr⟩ := parseRef_ev t (by omega)
      exact ⟨_, Ev.mapO hr⟩
    | false => exact ⟨_, Ev.now false⟩
  obtain ⟨last, hlast⟩ : ∃ r, Ev (fun k => lastOf k F f t) r := by
    unfold lastOf
    by_cases h1 : t.toList.isEmpty = true
    · simp only [if_pos h1]; exact ⟨_, Ev.now 9⟩
    · simp only [if_neg h1]
      by_cases h2 : 2000 < t.size
      · simp only [if_pos h2]; exact ⟨_, Ev.now 6⟩
      · simp only [if_neg h2]
        cases f.isSketch with
        | false => exact ⟨_, Ev.now 0⟩
        | true =>
          simp only [if_true]
          by_cases h3 : F.kind = 7 ∧ t.toList ≠ [120] ∧ t.toList ≠ [121] ∧ t.toList ≠ [122]
          · simp only [if_pos h3]; exact ⟨_, Ev.now 3⟩
          · simp only [if_neg h3]
            by_cases h4 : F.kind = 8
            · simp only [if_pos h4]; exact ⟨_, Ev.mapO (new_ev F.id t 0 (by omega) (by omega))⟩
            · simp only [if_neg h4]; exact ⟨_, Ev.now 0⟩
  refine ⟨if bad = true then 3 else last, Ev.congr (fun k => by unfold soundOf; rw [ht, Option.bind_some]) (Ev.bind (f := fun k bad => if bad then some 3 else lastOf k F f t) hbad ?_)⟩
  cases bad
  · exact hlast
  · exact Ev.now _
theorem soundAll_ev (F : FT) (h : FT.wt F ≤ 10000) : ∀ l : List X30.Fd, ∃ r, Ev (fun k => soundAll k F l) r
  | [] => ⟨_, Ev.now 0⟩
  | f :: l => by
    obtain ⟨e, he⟩ := sound_ev F f h
    obtain ⟨r, hr⟩ := soundAll_ev F h l
    refine ⟨if e = 0 then r else e, Ev.bind (f := fun k e => if e = 0 then soundAll k F l else some e) he ?_⟩
    by_cases hz : e = 0
    · simp only [if_pos hz]; exact hr
    · simp only [if_neg hz]; exact Ev.now _
theorem checkOf_ev (F : FT) (h : FT.wt F ≤ 10000) : ∃ r, Ev (fun k => checkOf k F) r := by
  obtain ⟨p, hp, -⟩ := side_ev F.id (by unfold FT.wt at h; omega)
  obtain ⟨r, hr⟩ := soundAll_ev F h (kindFd (F.kind - 1).toNat)
  refine ⟨if p.2 = 0 then (if 1 ≤ F.kind ∧ F.kind ≤ 8 then (if allFd.any (extra F (F.kind - 1).toNat) then 1 else r) else 11) else 7, Ev.bind (f := fun k (p : ByteArray × Int) => if p.2 = 0 then
    (if 1 ≤ F.kind ∧ F.kind ≤ 8 then (if allFd.any (extra F (F.kind - 1).toNat) then some 1 else soundAll k F (kindFd (F.kind - 1).toNat)) else some 11)
  else some 7) hp ?_⟩
  by_cases h1 : p.2 = 0
  · simp only [if_pos h1]
    by_cases h2 : 1 ≤ F.kind ∧ F.kind ≤ 8
    · simp only [if_pos h2]
      by_cases h3 : allFd.any (extra F (F.kind - 1).toNat) = true
      · simp only [if_pos h3]; exact Ev.now _
      · simp only [if_neg h3]; exact hr
    · simp only [if_neg h2]; exact Ev.now _
  · simp only [if_neg h1]; exact Ev.now _

end Go.Proofs.YtoccbcfjbingbaaGreatDoor.P30

namespace Go.Proofs.YtoccbcfjbingbaaGreatDoor.P30
open Go hiding Fd
open Go.RowKit Go.Lib Go.Proofs.YtoccbcfjbingbaaGreatDoorW.PrintWords Go.Proofs.YtoccbcfjbingbaaGreatDoorW.PrintLast Go.Proofs.YtoccbcfjbingbaaGreatDoor.X30 Go.Proofs.Facename Go.Proofs.YtoccbcfjbingbaaGreatDoor.P27

/-- G with the field f as F has it. -/
def upd (F G : FT) (f : X30.Fd) : FT := if f.isRef then G.setRef f (F.refT f) (F.refA f) else G.setPlain f (F.plain f)
/-- The row of a field. -/
def rowOf (tx : X30.Fd → ByteArray) (f : X30.Fd) : S45 := ⟨f.str, tx f⟩

theorem str_inj (f g : X30.Fd) : (f.str.toList == g.str.toList) = decide (f = g) := by cases f <;> cases g <;> decide +kernel
theorem fdOf_str (f : X30.Fd) : fdOf f.str = some f := by cases f <;> kernel_rfl
theorem memS_map (fs : List X30.Fd) (f : X30.Fd) : memS (fs.map X30.Fd.str) f.str = decide (f ∈ fs) := by
  induction fs with
  | nil => rfl
  | cons g fs ih =>
    unfold memS at ih ⊢
    rw [List.map_cons, List.any_cons, ih, str_inj]
    by_cases h1 : f = g <;> by_cases h2 : f ∈ fs <;> simp [h1, h2]

/-- Filling in own fields, each once, whose texts set as they should. -/
theorem fill_run (K n : Nat) (hn : n < 8) (tx : X30.Fd → ByteArray) (put : FT → X30.Fd → FT) (rest : List S45) : ∀ (fs : List X30.Fd) (G : FT) (met : List X30.Fd),
    (∀ f ∈ fs, f ∈ kindFd n) → (∀ f ∈ fs, ∀ G, setOf K G f (tx f) = some (put G f, true)) → fs.Nodup → (∀ f ∈ fs, f ∉ met) →
    fill K n G (met.map X30.Fd.str) (fs.map (rowOf tx) ++ rest) = fill K n (fs.foldl put G) ((met ++ fs).map X30.Fd.str) rest
  | [], G, met, _, _, _, _ => by simp
  | f :: fs, G, met, h1, h2, h3, h4 => by
    have e1 : memS (kAt n).2 f.str = true := by rw [kindFd_str n hn, memS_map]; exact decide_eq_true (h1 f (List.mem_cons_self ..))
    have e2 : memS (met.map X30.Fd.str) f.str = false := by rw [memS_map]; exact decide_eq_false (h4 f (List.mem_cons_self ..))
    have h3' := List.nodup_cons.1 h3
    have ih := fill_run K n hn tx put rest fs (put G f) (met ++ [f]) (fun g hg => h1 g (List.mem_cons_of_mem _ hg)) (fun g hg => h2 g (List.mem_cons_of_mem _ hg)) h3'.2
      (fun g hg => by simp only [List.mem_append, List.mem_singleton, not_or]; exact ⟨h4 g (List.mem_cons_of_mem _ hg), fun e => h3'.1 (e ▸ hg)⟩)
    rw [List.map_cons, List.cons_append, List.foldl_cons]
    have eq1 : fill K n G (met.map X30.Fd.str) (rowOf tx f :: (fs.map (rowOf tx) ++ rest)) = fill K n (put G f) (met.map X30.Fd.str ++ [f.str]) (fs.map (rowOf tx) ++ rest) := by
      have q : fill K n G (met.map X30.Fd.str) (rowOf tx f :: (fs.map (rowOf tx) ++ rest)) = if memS (kAt n).2 f.str then (if memS (met.map X30.Fd.str) f.str then some (.inr 8) else (fdOf f.str).bind fun f' => (setOf K G f' (tx f)).bind fun p => if p.2 then fill K n p.1 (met.map X30.Fd.str ++ [f.str]) (fs.map (rowOf tx) ++ rest) else some (.inr 3)) else some (.inr 7) := rfl
      rw [q, e1, e2, if_pos rfl, if_neg Bool.false_ne_true, fdOf_str, Option.bind_some, h2 f (List.mem_cons_self ..) G, Option.bind_some]
      simp only [if_true]
    rw [eq1]
    have e3 : met.map X30.Fd.str ++ [f.str] = (met ++ [f]).map X30.Fd.str := by simp
    rw [e3, ih]
    simp

/-! ### a feature that Check lets pass -/
structure Sound (K : Nat) (F : FT) (n : Nat) : Prop where
  kind : F.kind = (n : Int) + 1
  lt : n < 8
  none : ∀ f, f ∉ kindFd n → emptyOf F f = true
  texts : ∀ f ∈ kindFd n, ∃ t, textOf F f = some t ∧ badOf K F f t = some false ∧ lastOf K F f t = some 0
  name : ∃ r, facename_New.f K F.id sSide 0 = some r ∧ r.2 = 0

theorem soundAll_zero {K : Nat} {F : FT} : ∀ {l : List X30.Fd}, soundAll K F l = some 0 → ∀ f ∈ l, soundOf K F f = some 0
  | [], _, f, hf => by cases hf
  | g :: l, h, f, hf => by
    obtain ⟨e, he, h⟩ := Option.bind_eq_some_iff.1 h
    by_cases hz : e = 0
    · rw [if_pos hz] at h
      subst hz
      rcases List.mem_cons.1 hf with rfl | hf
      · exact he
      · exact soundAll_zero h f hf
    · rw [if_neg hz] at h
      exact absurd (Option.some.inj h) hz
theorem sound_of {K : Nat} {F : FT} (h : checkOf K F = some 0) : ∃ n, Sound K F n := by
  unfold checkOf at h
  obtain ⟨r, hr, h⟩ := Option.bind_eq_some_iff.1 h
  by_cases h1 : r.2 = 0
  case neg => rw [if_neg h1] at h; cases h
  rw [if_pos h1] at h
  by_cases h2 : 1 ≤ F.kind ∧ F.kind ≤ 8
  case neg => rw [if_neg h2] at h; cases h
  rw [if_pos h2] at h
  by_cases h3 : allFd.any (extra F (F.kind - 1).toNat) = true
  case pos => rw [if_pos h3] at h; cases h
  rw [if_neg h3] at h
  have h8 : (F.kind - 1).toNat < 8 := by omega
  refine ⟨(F.kind - 1).toNat, by omega, h8, fun f hf => ?_, fun f hf => ?_, r, hr, h1⟩
  · have hall : f ∈ allFd := by cases f <;> decide
    have := fun e => h3 (List.any_eq_true.2 ⟨f, hall, e⟩)
    unfold extra at this
    rw [kindFd_str _ h8, memS_map, decide_eq_false hf] at this
    simpa using this
  · have hs := soundAll_zero h f hf
    unfold soundOf at hs
    obtain ⟨t, ht, hs⟩ := Option.bind_eq_some_iff.1 hs
    obtain ⟨b, hb, hs⟩ := Option.bind_eq_some_iff.1 hs
    cases b with
    | true => simp at hs
    | false => exact ⟨t, ht, hb, by simpa using hs⟩

/-- The texts of a sound feature set its fields. -/
theorem set_own {K n : Nat} {F : FT} (h : Sound K F n) (tx : X30.Fd → ByteArray) (htx : ∀ f ∈ kindFd n, textOf F f = some (tx f)) : ∀ f ∈ kindFd n, ∀ G, setOf K G f (tx f) = some (upd F G f, true) := by
  intro f hf G
  obtain ⟨t, ht, hb, -⟩ := h.texts f hf
  obtain rfl : t = tx f := Option.some.inj (ht.symm.trans (htx f hf))
  unfold setOf upd
  unfold badOf at hb
  unfold textOf at ht
  cases hr : f.isRef with
  | true =>
    rw [hr, if_pos rfl] at hb ht
    obtain ⟨p, hp, hb⟩ := Option.map_eq_some_iff.1 hb
    simp only [Bool.not_eq_false', Bool.and_eq_true, decide_eq_true_eq] at hb
    obtain ⟨⟨h1, h2⟩, h3⟩ := hb
    simp only [if_true, hp, Option.map_some, h1, h2, h3]
  | false =>
    rw [hr, if_neg Bool.false_ne_true] at ht
    simp only [Bool.false_eq_true, if_false, Option.some.inj ht]

theorem empty_str {s : ByteArray} (h : s.toList.isEmpty = true) : s = ⟨#[]⟩ := by
  apply str_ext
  rw [← P27.toList_data]
  simpa using h
theorem empty_plain {F : FT} {f : X30.Fd} (hr : f.isRef = false) (h : emptyOf F f = true) : F.plain f = ⟨#[]⟩ := by
  unfold emptyOf at h
  rw [hr, if_neg Bool.false_ne_true] at h
  exact empty_str h
theorem empty_ref {F : FT} {f : X30.Fd} (hr : f.isRef = true) (h : emptyOf F f = true) : F.refT f = ⟨#[]⟩ ∧ F.refA f = [] := by
  unfold emptyOf at h
  rw [hr, if_pos rfl, Bool.and_eq_true, decide_eq_true_eq] at h
  exact ⟨empty_str h.1, List.length_eq_zero_iff.1 h.2⟩

/-- A feature's fields, laid one by one into an empty feature, give the feature. -/
theorem fold_own {K n : Nat} {F : FT} (h : Sound K F n) (fs : List X30.Fd) (hfs : fs = kindFd n ∨ fs = (kindFd n).reverse) : fs.foldl (upd F) (FT.start F.id F.kind) = F := by
  have hp : ∀ f, f.isRef = false → f ∉ kindFd n → F.plain f = ⟨#[]⟩ := fun f hr hf => empty_plain hr (h.none f hf)
  have hq : ∀ f, f.isRef = true → f ∉ kindFd n → F.refT f = ⟨#[]⟩ ∧ F.refA f = [] := fun f hr hf => empty_ref hr (h.none f hf)
  have hn := h.lt
  clear h
  have q1 := hq .on rfl
  have q2 := hq .and rfl
  have p1 := hp .sketch rfl
  have p2 := hp .amount rfl
  have p3 := hp .count rfl
  have p4 := hp .x rfl
  have p5 := hp .y rfl
  have p6 := hp .z rfl
  clear hp hq
  cases F
  match n, hn with
  | 0, _ | 1, _ | 2, _ | 3, _ | 4, _ | 5, _ | 6, _ | 7, _ =>
    simp [kindFd, FT.plain, FT.refT, FT.refA] at q1 q2 p1 p2 p3 p4 p5 p6
    rcases hfs with rfl | rfl <;> simp [kindFd, upd, X30.Fd.isRef, FT.setRef, FT.setPlain, FT.start, FT.zero, FT.plain, FT.refT, FT.refA, *]

theorem kindFd_nodup : ∀ n, n < 8 → (kindFd n).Nodup := by
  intro n hn
  match n, hn with
  | 0, _ | 1, _ | 2, _ | 3, _ | 4, _ | 5, _ | 6, _ | 7, _ => decide
theorem kindNo_at : ∀ n, n < 8 → kindNo (kAt n).1 = ((n : Int) + 1, true) := by
  intro n hn
  match n, hn with
  | 0, _ | 1, _ | 2, _ | 3, _ | 4, _ | 5, _ | 6, _ | 7, _ => decide +kernel

/-- FromFields over what it makes of the rows. -/
theorem from_known (K n : Nat) (hn : n < 8) (id : ByteArray) (l : List S45) : fromFields K id (kAt n).1 l = (fill K n (FT.start id ((n : Int) + 1)) [] l).bind fun res => match res with
      | .inr e => some (FT.zero, e)
      | .inl (F, met) => if met.length < (kAt n).2.length then some (FT.zero, 9) else (checkOf K F).bind fun e => if e = 0 then some (F, 0) else some (FT.zero, e) := by
  unfold fromFields
  rw [kindNo_at n hn]
  simp only [if_true]
  rw [show ((n : Int) + 1 - 1).toNat = n by omega]
  rfl

/-- ROUND TRIP, for any order that is the given one or its reverse. -/
theorem from_own {K n : Nat} {F : FT} (h : Sound K F n) (hc : checkOf K F = some 0) (tx : X30.Fd → ByteArray) (htx : ∀ f ∈ kindFd n, textOf F f = some (tx f)) (fs : List X30.Fd) (hfs : fs = kindFd n ∨ fs = (kindFd n).reverse) :
    fromFields K F.id (kAt n).1 (fs.map (rowOf tx)) = some (F, 0) := by
  have hmem : ∀ f ∈ fs, f ∈ kindFd n := by
    rcases hfs with rfl | rfl
    · exact fun _ h => h
    · exact fun _ h => List.mem_reverse.1 h
  have hnd : fs.Nodup := by
    have := kindFd_nodup n h.lt
    rcases hfs with rfl | rfl
    · exact this
    · exact List.pairwise_reverse.2 (List.Pairwise.imp (fun h => h.symm) this)
  have hlen : fs.length = (kindFd n).length := by rcases hfs with rfl | rfl <;> simp
  have hf := fill_run K n h.lt tx (upd F) [] fs (FT.start F.id ((n : Int) + 1)) [] hmem (fun f hf G => set_own h tx htx f (hmem f hf) G) hnd (fun _ _ h => by cases h)
  rw [List.append_nil, List.map_nil, List.nil_append, ← h.kind, fold_own h fs hfs, h.kind] at hf
  rw [from_known K n h.lt, hf]
  simp only [fill, Option.bind_some]
  rw [if_neg (by rw [List.length_map, hlen, kindFd_str n h.lt, List.length_map]; omega), hc, Option.bind_some, if_pos rfl]

/-- The fields of a sound feature. -/
theorem fields_own {K n : Nat} {F : FT} (h : Sound K F n) : ∃ tx : X30.Fd → ByteArray, (∀ f ∈ kindFd n, textOf F f = some (tx f)) ∧ fieldsOf F = some ((kAt n).1, (kindFd n).map (rowOf tx)) := by
  have ht : ∀ f ∈ kindFd n, textOf F f = some ((textOf F f).getD ⟨#[]⟩) := fun f hf => by
    obtain ⟨t, ht, -⟩ := h.texts f hf
    rw [ht]; rfl
  refine ⟨fun f => (textOf F f).getD ⟨#[]⟩, ht, ?_⟩
  unfold fieldsOf
  have hk := h.kind
  have hl := h.lt
  rw [if_pos (by omega), hk, show ((n : Int) + 1 - 1).toNat = n by omega]
  have : ∀ l : List X30.Fd, (∀ f ∈ l, f ∈ kindFd n) → (l.mapM fun f => (textOf F f).map fun t => (⟨f.str, t⟩ : S45)) = some (l.map (rowOf fun f => (textOf F f).getD ⟨#[]⟩)) := by
    intro l
    induction l with
    | nil => intro _; rfl
    | cons f l ih =>
      intro hm
      rw [List.mapM_cons, ih (fun g hg => hm g (List.mem_cons_of_mem _ hg)), ht f (hm f (List.mem_cons_self ..))]
      rfl
  rw [this _ (fun _ h => h)]
  rfl

end Go.Proofs.YtoccbcfjbingbaaGreatDoor.P30

namespace Go.Proofs.YtoccbcfjbingbaaGreatDoor.P30
open Go hiding Fd
open Go.RowKit Go.Lib Go.Proofs.YtoccbcfjbingbaaGreatDoorW.PrintWords Go.Proofs.YtoccbcfjbingbaaGreatDoorW.PrintLast Go.Proofs.YtoccbcfjbingbaaGreatDoor.X30 Go.Proofs.Facename Go.Proofs.YtoccbcfjbingbaaGreatDoor.P27

theorem great_l0 (l : List ByteArray) (hl : l.length < 4611686018427387904) : ∀ (rest pre : List ByteArray), l = pre ++ rest → ∀ (a : Nat), a + wt rest < 4611686018427387904 → ∀ k, rest.length < k →
    voussoirref30_Great.l0 k (a : Int) l (pre.length : Int) = some (if a + wt rest > 5000 then 1 else 0) := by
  intro rest
  induction rest with
  | nil =>
    intro pre h a ha k hk
    obtain ⟨k, rfl⟩ : ∃ n, k = n + 1 := ⟨k - 1, by omega⟩
    simp only [voussoirref30_Great.l0]
    rw [h, List.append_nil, if_neg (by omega)]
    have : wt [] = 0 := rfl
    by_cases h5 : a > 5000
    · rw [if_pos (by omega), if_pos (by omega)]
    · rw [if_neg (by omega), if_neg (by omega)]
  | cons s rest ih =>
    intro pre h a ha k hk
    obtain ⟨k, rfl⟩ : ∃ n, k = n + 1 := ⟨k - 1, by simp at hk; omega⟩
    have hlen : l.length = pre.length + rest.length + 1 := by rw [h]; simp; omega
    have hs : rdOf ByteArray.empty l (pre.length : Int) = s := by
      unfold rdOf
      rw [h]
      simp
    rw [wt_cons] at ha
    simp only [voussoirref30_Great.l0]
    rw [if_pos (by omega), if_pos (by omega), hs]
    have e1 : wrap64 ((a : Int) + (s.size : Int)) = ((a + s.size : Nat) : Int) := by unfold wrap64; omega
    have e2 : wrap64 (((a + s.size : Nat) : Int) + 1) = ((a + s.size + 1 : Nat) : Int) := by unfold wrap64; omega
    have e3 : wrap64 ((pre.length : Int) + 1) = ((pre ++ [s]).length : Int) := by rw [List.length_append]; unfold wrap64; simp only [List.length_cons, List.length_nil]; omega
    rw [e1, e2, e3, ih (pre ++ [s]) (by rw [h]; simp) (a + s.size + 1) (by omega) k (by simp at hk; omega), wt_cons, show a + s.size + 1 + wt rest = a + (s.size + 1 + wt rest) by omega]

theorem great_all (l : List ByteArray) (hl : l.length < 4611686018427387904) (a : Nat) (ha : a + wt l < 4611686018427387904) : voussoirref30_Great.l0 (l.length + 1) (a : Int) l 0 = some (if a + wt l > 5000 then 1 else 0) :=
  great_l0 l hl l [] rfl a ha (l.length + 1) (Nat.lt_succ_self _)
theorem w_nat (n : Nat) (h : n < 4611686018427387904) : wrap64 (n : Int) = n := by unfold wrap64; omega
def greatOf (F : FT) : Int := if FT.wt F > 5000 then 1 else 0
theorem great_ev (F : FT) (h : FT.wt F ≤ 1000000000) : ∃ k, voussoirref30_Great.f k F.id F.kind F.onT F.onA F.andT F.andA F.sketch F.amount F.count F.x F.y F.z = some (greatOf F) := by
  have l3 := wt_length F.onA
  have l5 := wt_length F.andA
  unfold FT.wt at h
  have happ : wt (F.onA ++ F.andA) = wt F.onA + wt F.andA := by unfold wt; simp
  refine ⟨(F.onA ++ F.andA).length + 1, ?_⟩
  unfold voussoirref30_Great.f
  simp only [Option.bind_some, List.nil_append, List.length_nil]
  rw [if_pos (by omega), if_pos (by omega)]
  obtain ⟨S, hS⟩ : ∃ S, S = F.id.size + F.onT.size + F.andT.size + F.sketch.size + F.amount.size + F.count.size + F.x.size + F.y.size + F.z.size := ⟨_, rfl⟩
  have hg : greatOf F = if S + (wt F.onA + wt F.andA) > 5000 then 1 else 0 := by
    have : FT.wt F = S + (wt F.onA + wt F.andA) := by unfold FT.wt; omega
    unfold greatOf
    rw [this]
  have h2 : S + (wt F.onA + wt F.andA) ≤ 1000000000 := by omega
  have h3 : (F.onA ++ F.andA).length ≤ 1000000000 := by rw [List.length_append]; omega
  have e : wrap64 ((wrap64 ((wrap64 ((wrap64 ((wrap64 ((wrap64 ((wrap64 ((wrap64 ((F.id.size : Int) + (F.onT.size : Int))) + (F.andT.size : Int))) + (F.sketch.size : Int))) + (F.amount.size : Int))) + (F.count.size : Int))) + (F.x.size : Int))) + (F.y.size : Int))) + (F.z.size : Int)) = ((F.id.size + F.onT.size + F.andT.size + F.sketch.size + F.amount.size + F.count.size + F.x.size + F.y.size + F.z.size : Nat) : Int) := by
    rw [← Int.natCast_add, w_nat, ← Int.natCast_add, w_nat, ← Int.natCast_add, w_nat, ← Int.natCast_add, w_nat, ← Int.natCast_add, w_nat, ← Int.natCast_add, w_nat, ← Int.natCast_add, w_nat, ← Int.natCast_add, w_nat]
    all_goals omega
  rw [e, hg, ← hS]
  clear e hg hS h l3 l5
  have := great_all (F.onA ++ F.andA) (by omega) S (by omega)
  rw [this, happ]

end Go.Proofs.YtoccbcfjbingbaaGreatDoor.P30

namespace Go.Proofs.YtoccbcfjbingbaaGreatDoor.P30
open Go hiding Fd
open Go.RowKit Go.Lib Go.Proofs.YtoccbcfjbingbaaGreatDoorW.PrintWords Go.Proofs.YtoccbcfjbingbaaGreatDoorW.PrintLast Go.Proofs.YtoccbcfjbingbaaGreatDoor.X30 Go.Proofs.Facename Go.Proofs.YtoccbcfjbingbaaGreatDoor.P27

/-- A field left out. -/
theorem from_less {K n : Nat} {F : FT} (h : Sound K F n) (tx : X30.Fd → ByteArray) (htx : ∀ f ∈ kindFd n, textOf F f = some (tx f)) (i : Nat) (hi : i < (kindFd n).length) :
    fromFields K F.id (kAt n).1 (((kindFd n).map (rowOf tx)).take i ++ ((kindFd n).map (rowOf tx)).drop (i + 1)) = some (FT.zero, 9) := by
  rw [← List.map_take, ← List.map_drop, ← List.map_append, ← List.eraseIdx_eq_take_drop_succ]
  have hsub := List.eraseIdx_sublist (kindFd n) i
  have hf := fill_run K n h.lt tx (upd F) [] ((kindFd n).eraseIdx i) (FT.start F.id ((n : Int) + 1)) [] (fun f hf => hsub.subset hf) (fun f hf G => set_own h tx htx f (hsub.subset hf) G) ((kindFd_nodup n h.lt).sublist hsub) (fun _ _ h => by cases h)
  rw [List.append_nil, List.map_nil, List.nil_append] at hf
  rw [from_known K n h.lt, hf]
  simp only [fill, Option.bind_some]
  rw [if_pos (by rw [List.length_map, List.length_eraseIdx_of_lt hi, kindFd_str n h.lt, List.length_map]; omega)]

/-- What follows the own fields. -/
theorem from_more {K n : Nat} {F : FT} (h : Sound K F n) (tx : X30.Fd → ByteArray) (htx : ∀ f ∈ kindFd n, textOf F f = some (tx f)) (d : S45) (e : Int)
    (hd : ∀ G, fill K n G ((kindFd n).map X30.Fd.str) [d] = some (.inr e)) : fromFields K F.id (kAt n).1 ((kindFd n).map (rowOf tx) ++ [d]) = some (FT.zero, e) := by
  have hf := fill_run K n h.lt tx (upd F) [d] (kindFd n) (FT.start F.id ((n : Int) + 1)) [] (fun f hf => hf) (fun f hf G => set_own h tx htx f hf G) (kindFd_nodup n h.lt) (fun _ _ h => by cases h)
  rw [List.map_nil, List.nil_append, hd] at hf
  rw [from_known K n h.lt, hf, Option.bind_some]
theorem from_twice {K n : Nat} {F : FT} (h : Sound K F n) (tx : X30.Fd → ByteArray) (htx : ∀ f ∈ kindFd n, textOf F f = some (tx f)) (f : X30.Fd) (hf : f ∈ kindFd n) (t : ByteArray) :
    fromFields K F.id (kAt n).1 ((kindFd n).map (rowOf tx) ++ [⟨f.str, t⟩]) = some (FT.zero, 8) := by
  refine from_more h tx htx _ 8 fun G => ?_
  have e1 : memS (kAt n).2 f.str = true := by rw [kindFd_str n h.lt, memS_map]; exact decide_eq_true hf
  have e2 : memS ((kindFd n).map X30.Fd.str) f.str = true := by rw [memS_map]; exact decide_eq_true hf
  unfold fill
  simp only
  rw [if_pos e1, if_pos e2]
theorem from_foreign {K n : Nat} {F : FT} (h : Sound K F n) (tx : X30.Fd → ByteArray) (htx : ∀ f ∈ kindFd n, textOf F f = some (tx f)) (s t : ByteArray) (hs : memS (kAt n).2 s = false) :
    fromFields K F.id (kAt n).1 ((kindFd n).map (rowOf tx) ++ [⟨s, t⟩]) = some (FT.zero, 7) := by
  refine from_more h tx htx _ 7 fun G => ?_
  unfold fill
  simp only
  rw [if_neg (by rw [hs]; exact Bool.false_ne_true)]

end Go.Proofs.YtoccbcfjbingbaaGreatDoor.P30
