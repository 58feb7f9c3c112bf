/- A sound feature with the text of one field replaced, and with another ID. -/
import Derived.Test.YtoccbcfjbingbaaGreatDoorP30b
namespace Go.Proofs.YtoccbcfjbingbaaGreatDoor.P30
open Go hiding Fd
open Go.RowKit Go.Lib Go.Proofs.YtoccbcfjbingbaaGreatDoorW.PrintWords Go.Proofs.YtoccbcfjbingbaaGreatDoorW.PrintLast Go.Proofs.YtoccbcfjbingbaaGreatDoor.X30 Go.Proofs.Facename Go.Proofs.YtoccbcfjbingbaaGreatDoor.P27

/-! ### the pieces between the bars, joined again -/
theorem split_join (s : ByteArray) : join ((splitB ⟨#[124]⟩ 0 (countB s ⟨#[124]⟩) s).map (·.data.toList)) [124] = s.data.toList := by
  rw [splitB_data]
  have key : ∀ (k : Nat) (l : List UInt8), join (splitK [124] 0 k l) [124] = l ∧ splitK [124] 0 k l ≠ [] := by
    intro k
    induction k with
    | zero => intro l; exact ⟨join_one _ _, by simp [splitK]⟩
    | succ k ih =>
      intro l
      unfold splitK
      rcases index_spec l [124] with ⟨h, -⟩ | ⟨i, h, hi, ho, -⟩
      · rw [h, if_pos (beq_self_eq_true _)]; exact ⟨join_one _ _, by simp⟩
      · have hn : ¬ ((index l [124] == -1) = true) := by rw [beq_iff_eq]; omega
        rw [if_neg hn, h, Int.toNat_natCast]
        have hc := occAt_head (s := l) (sub := [124]) (i := i) (c := 124) (t := []) rfl ho
        obtain ⟨h1, h2⟩ := ih (l.drop (i + 1))
        refine ⟨?_, by simp⟩
        have hlt : i < l.length := by
          rcases Nat.lt_or_ge i l.length with h | h
          · exact h
          · rw [List.getElem?_eq_none h] at hc; cases hc
        have hd : l.drop i = 124 :: l.drop (i + 1) := by
          rw [List.drop_eq_getElem_cons hlt]
          rw [List.getElem?_eq_getElem hlt] at hc
          rw [Option.some.inj hc]
        rw [show ([124] : List UInt8).length = 1 from rfl, Nat.add_zero]
        generalize splitK [124] 0 k (l.drop (i + 1)) = r at h1 h2
        cases r with
        | nil => exact absurd rfl h2
        | cons x r =>
          have : join (l.take i :: x :: r) [124] = l.take i ++ 124 :: join (x :: r) [124] := by
            simp [join, List.intercalate]
          rw [this, h1, ← hd, List.take_append_drop]
  exact (key _ _).1

/-- A text that Parse lets pass is what Format makes of its result. -/
theorem format_parse {K : Nat} {s t : ByteArray} {a : List ByteArray} (hs : s.size ≤ 100000) (h : resolve_Parse.f K s = some (t, a, true)) : resolve_Format.f t a = some s ∧ t.size + wt a = s.size := by
  unfold resolve_Parse.f at h
  obtain ⟨l, hl, h⟩ := Option.bind_eq_some_iff.1 h
  have hj := split_join s
  have hlen := splitB_len s ⟨#[124]⟩ (by decide)
  have hcn := countB_le ⟨#[124]⟩ (by decide) s.size s (Nat.le_refl _)
  unfold strings_Split.f at hl
  rw [if_pos ⟨by omega, by decide⟩] at hl
  obtain rfl := Option.some.inj hl
  generalize splitB ⟨#[124]⟩ 0 (countB s ⟨#[124]⟩) s = l at h hj hlen
  match l, h with
  | x :: rest, h =>
    simp only at h
    obtain ⟨e, he, h⟩ := Option.bind_eq_some_iff.1 h
    by_cases hz : e = 0
    · rw [if_pos hz] at h
      simp only [Option.some.injEq, Prod.mk.injEq, and_true] at h
      obtain ⟨rfl, rfl⟩ := h
      have hz2 := size_list s
      simp only [List.length_cons] at hlen
      refine ⟨?_, ?_⟩
      case refine_2 =>
        have h1 := congrArg List.length hj
        rw [List.map_cons, join_length] at h1
        have h2 := lens_wt rest
        have h3 := size_list x
        simp only [lens, List.map_cons, List.sum_cons, List.length_map, List.length_cons, List.length_nil] at h1 h2
        omega
      unfold resolve_Format.f
      simp only [Option.bind_some, List.length_cons, List.length_nil]
      rw [if_pos (by omega)]
      unfold strings_Join.f
      have hx : ([x] ++ rest) = x :: rest := rfl
      rw [hx, show (⟨#[124]⟩ : ByteArray).data.toList = [124] from rfl, hj, if_pos ⟨by omega, by simp only [List.length_cons]; omega⟩, Option.bind_some, Array.toArray_toList]
    · rw [if_neg hz] at h
      simp at h

/-! ### one field replaced -/
theorem fold_of (T : FT) (n : Nat) (hn : n < 8) (hk : T.kind = (n : Int) + 1) (hnone : ∀ f, f ∉ kindFd n → emptyOf T f = true) : (kindFd n).foldl (upd T) (FT.start T.id ((n : Int) + 1)) = T := by
  have hp : ∀ f, f.isRef = false → f ∉ kindFd n → T.plain f = ⟨#[]⟩ := fun f hr hf => empty_plain hr (hnone f hf)
  have hq : ∀ f, f.isRef = true → f ∉ kindFd n → T.refT f = ⟨#[]⟩ ∧ T.refA f = [] := fun f hr hf => empty_ref hr (hnone f hf)
  rw [← hk]
  clear hnone hk
  have q1 := hq .on rfl
  have q2 := hq .and rfl
  have p1 := hp .sketch rfl
  have p2 := hp .amount rfl
  have p3 := hp .count rfl
  have p4 := hp .x rfl
  have p5 := hp .y rfl
  have p6 := hp .z rfl
  clear hp hq
  cases T
  match n, hn with
  | 0, _ | 1, _ | 2, _ | 3, _ | 4, _ | 5, _ | 6, _ | 7, _ =>
    simp [kindFd, FT.plain, FT.refT, FT.refA] at q1 q2 p1 p2 p3 p4 p5 p6
    simp [kindFd, upd, X30.Fd.isRef, FT.setRef, FT.setPlain, FT.start, FT.zero, FT.plain, FT.refT, FT.refA, *]

/-- F with another text at f: (t, a) is what it reads as, at a reference. -/
def withText (F : FT) (f : X30.Fd) (s t : ByteArray) (a : List ByteArray) : FT := if f.isRef then F.setRef f t a else F.setPlain f s
theorem with_id (F : FT) (f : X30.Fd) (s t : ByteArray) (a : List ByteArray) : (withText F f s t a).id = F.id ∧ (withText F f s t a).kind = F.kind := by cases f <;> exact ⟨rfl, rfl⟩
theorem with_upd (F : FT) (f g : X30.Fd) (s t : ByteArray) (a : List ByteArray) (h : g ≠ f) (G : FT) : upd (withText F f s t a) G g = upd F G g := by
  cases f <;> cases g <;> first | exact absurd rfl h | rfl
theorem with_text (F : FT) (f g : X30.Fd) (s t : ByteArray) (a : List ByteArray) (h : g ≠ f) : textOf (withText F f s t a) g = textOf F g := by
  cases f <;> cases g <;> first | exact absurd rfl h | rfl
theorem with_empty (F : FT) (f g : X30.Fd) (s t : ByteArray) (a : List ByteArray) (h : g ≠ f) : emptyOf (withText F f s t a) g = emptyOf F g := by
  cases f <;> cases g <;> first | exact absurd rfl h | rfl
theorem with_wt (F : FT) (f : X30.Fd) (s t : ByteArray) (a : List ByteArray) : FT.wt (withText F f s t a) ≤ FT.wt F + s.size + t.size + wt a := by
  cases f <;> simp only [withText, X30.Fd.isRef, FT.setRef, FT.setPlain, if_true, Bool.false_eq_true, if_false, FT.wt] <;> omega

/-- What the text of a field sets: always the same way. -/
theorem set_shape (K : Nat) (f : X30.Fd) (s : ByteArray) (p : ByteArray × List ByteArray × Bool) (hp : f.isRef = true → resolve_Parse.f K s = some p) (G : FT) :
    setOf K G f s = some ((if f.isRef then G.setRef f p.1 p.2.1 else G.setPlain f s), if f.isRef then p.2.2 else true) := by
  unfold setOf
  cases hr : f.isRef with
  | true => rw [if_pos rfl, hp hr]; rfl
  | false => rfl

theorem kindFd_at (n i : Nat) (hn : n < 8) (tx : X30.Fd → ByteArray) (s : ByteArray) (hi : i < (kindFd n).length) :
    (kindFd n).map (rowOf fun f => if f = (kindFd n)[i] then s else tx f) = ((kindFd n).map (rowOf tx)).set i ⟨((kindFd n)[i]).str, s⟩ := by
  have hnd := kindFd_nodup n hn
  apply List.ext_getElem
  · simp
  · intro j h1 h2
    rw [List.getElem_set]
    simp only [List.getElem_map]
    simp only [List.length_map] at h1
    by_cases h : i = j
    · subst h
      rw [if_pos rfl]
      exact congrArg (fun x => (⟨((kindFd n)[i]).str, x⟩ : S45)) (if_pos rfl)
    · rw [if_neg h]
      exact congrArg (fun x => (⟨((kindFd n)[j]).str, x⟩ : S45)) (if_neg (fun e => h ((List.getElem_inj hnd).1 e).symm))

open Classical in
/-- One field's text replaced: an error, or a feature with just these fields. -/
theorem from_set {K n : Nat} {F : FT} (hc : checkOf K F = some 0) (h : Sound K F n) (hw : FT.wt F ≤ 5000) (tx : X30.Fd → ByteArray) (htx : ∀ f ∈ kindFd n, textOf F f = some (tx f)) (i : Nat) (hi : i < (kindFd n).length) (s : ByteArray) (hs : s.size ≤ 1000) :
    ∃ K' p, fromFields K' F.id (kAt n).1 (((kindFd n).map (rowOf tx)).set i ⟨((kindFd n)[i]).str, s⟩) = some p ∧ ((p.2 ≠ 0 ∧ p.1 = FT.zero) ∨ (p.2 = 0 ∧ fieldsOf p.1 = some ((kAt n).1, ((kindFd n).map (rowOf tx)).set i ⟨((kindFd n)[i]).str, s⟩))) := by
  obtain ⟨f0, hf0⟩ : ∃ f, f = (kindFd n)[i] := ⟨_, rfl⟩
  rw [← kindFd_at n i h.lt tx s hi, ← hf0]
  have hmem0 : f0 ∈ kindFd n := hf0 ▸ List.getElem_mem hi
  obtain ⟨r, hr⟩ : ∃ r, Ev (fun k => resolve_Parse.f k s) r := parseRef_ev s (by omega)
  obtain ⟨Kp, hr⟩ := hr
  obtain ⟨T, hT⟩ : ∃ T, T = withText F f0 s r.1 r.2.1 := ⟨_, rfl⟩
  obtain ⟨tx', htx'⟩ : ∃ t : X30.Fd → ByteArray, t = fun f => if f = f0 then s else tx f := ⟨_, rfl⟩
  have e0 : tx' f0 = s := by rw [htx']; exact if_pos rfl
  have e1 : ∀ f, f ≠ f0 → tx' f = tx f := fun f hf => by rw [htx']; exact if_neg hf
  rw [← htx']
  have hid := with_id F f0 s r.1 r.2.1
  rw [← hT] at hid
  -- a bound on rounds for everything
  have hat : ∀ K', K ≤ K' → checkOf K' F = some 0 := fun K' hk => at_rounds (fun k => checkOf_mono k F) hk hc
  have sound' : ∀ K', K ≤ K' → Sound K' F n := by
    intro K' hk
    obtain ⟨m, hm⟩ := sound_of (hat K' hk)
    have : m = n := by have := hm.kind; have := h.kind; omega
    exact this ▸ hm
  have own' : ∀ K', K ≤ K' → Kp ≤ K' → ∀ f ∈ kindFd n, f ≠ f0 → ∀ G, setOf K' G f (tx' f) = some (upd T G f, true) := by
    intro K' hk hkp f hf hne G
    rw [e1 f hne, set_own (sound' K' hk) tx htx f hf G, hT, with_upd F f0 f s _ _ hne]
  have shape' : ∀ K', Kp ≤ K' → ∀ G, setOf K' G f0 (tx' f0) = some (upd T G f0, if f0.isRef then r.2.2 else true) := by
    intro K' hk G
    rw [e0, set_shape K' f0 s r (fun _ => hr K' hk) G, hT]
    congr 2
    cases f0 <;> rfl
  by_cases hok : (if f0.isRef then r.2.2 else true) = true
  · -- the text is good
    have all' : ∀ K', K ≤ K' → Kp ≤ K' → ∀ f ∈ kindFd n, ∀ G, setOf K' G f (tx' f) = some (upd T G f, true) := by
      intro K' hk hkp f hf G
      by_cases hff : f = f0
      · subst hff; rw [shape' K' hkp, hok]
      · exact own' K' hk hkp f hf hff G
    have htext : textOf T f0 = some s ∧ (f0.isRef = true → r.1.size + wt r.2.1 = s.size) := by
      cases hrf : f0.isRef with
      | true =>
        rw [hrf, if_pos rfl] at hok
        have hp : resolve_Parse.f Kp s = some r := hr Kp (Nat.le_refl _)
        have hp' : resolve_Parse.f Kp s = some (r.1, r.2.1, true) := by rw [hp]; congr 1; rw [← hok]
        obtain ⟨g1, g2⟩ := format_parse (by omega) hp'
        refine ⟨?_, fun _ => g2⟩
        rw [hT]
        unfold textOf
        rw [if_pos hrf]
        rw [← g1]
        cases f0 <;> first | rfl | cases hrf
      | false =>
        refine ⟨?_, fun h => by cases h⟩
        rw [hT]
        unfold textOf
        rw [if_neg (by rw [hrf]; exact Bool.false_ne_true)]
        cases f0 <;> first | rfl | cases hrf
    have hwT : FT.wt T ≤ 10000 := by
      have := with_wt F f0 s r.1 r.2.1
      cases hrf : f0.isRef with
      | true => have := htext.2 hrf; rw [hT]; omega
      | false =>
        have e : withText F f0 s r.1 r.2.1 = withText F f0 s ⟨#[]⟩ [] := by cases f0 <;> first | rfl | cases hrf
        have := with_wt F f0 s ⟨#[]⟩ []
        have w0 : wt [] = 0 := rfl
        have z0 : (⟨#[]⟩ : ByteArray).size = 0 := rfl
        rw [hT, e]; omega
    obtain ⟨c, Kc, hcT⟩ := checkOf_ev T hwT
    have hkT : T.kind = (n : Int) + 1 := hid.2.trans h.kind
    have hnone : ∀ f, f ∉ kindFd n → emptyOf T f = true := fun f hf => by rw [hT, with_empty F f0 f s _ _ (fun e => hf (e ▸ hmem0))]; exact h.none f hf
    refine ⟨K + Kp + Kc, if c = 0 then (T, 0) else (FT.zero, c), ?_, ?_⟩
    · have hf := fill_run (K + Kp + Kc) n h.lt tx' (upd T) [] (kindFd n) (FT.start F.id ((n : Int) + 1)) [] (fun f hf => hf) (all' _ (by omega) (by omega)) (kindFd_nodup n h.lt) (fun _ _ h => by cases h)
      rw [List.append_nil, List.map_nil, List.nil_append] at hf
      have hfold := fold_of T n h.lt hkT hnone
      rw [hid.1] at hfold
      rw [from_known _ n h.lt, hf, hfold]
      simp only [fill, Option.bind_some]
      have hcc : checkOf (K + Kp + Kc) T = some c := hcT _ (by omega)
      rw [if_neg (by rw [List.length_map, kindFd_str n h.lt, List.length_map]; omega), hcc, Option.bind_some]
      by_cases hz : c = 0
      · rw [if_pos hz, if_pos hz]
      · rw [if_neg hz, if_neg hz]
    · by_cases hz : c = 0
      · right
        rw [if_pos hz]
        refine ⟨rfl, ?_⟩
        have hcc : checkOf Kc T = some 0 := by have := hcT Kc (Nat.le_refl _); rw [hz] at this; exact this
        obtain ⟨m, hm⟩ := sound_of hcc
        obtain rfl : m = n := by have := hm.kind; omega
        obtain ⟨txT, g1, g2⟩ := fields_own hm
        rw [g2]
        congr 2
        apply List.map_congr_left
        intro f hf
        have := g1 f hf
        unfold rowOf
        by_cases hff : f = f0
        · subst hff
          rw [htext.1] at this
          rw [← Option.some.inj this, e0]
        · rw [hT, with_text F f0 f s _ _ hff, htx f hf] at this
          rw [← Option.some.inj this, e1 f hff]
      · left
        rw [if_neg hz]
        exact ⟨hz, rfl⟩
  · -- the text is bad
    have hbad : (if f0.isRef then r.2.2 else true) = false := Bool.eq_false_iff.2 hok
    refine ⟨K + Kp, (FT.zero, 3), ?_, .inl ⟨by decide, rfl⟩⟩
    have hsplit : kindFd n = (kindFd n).take i ++ f0 :: (kindFd n).drop (i + 1) := by
      rw [hf0, ← List.drop_eq_getElem_cons hi, List.take_append_drop]
    have hnd := kindFd_nodup n h.lt
    have hnot : f0 ∉ (kindFd n).take i := by
      intro hm
      rw [hsplit] at hnd
      exact (List.nodup_append.1 hnd).2.2 f0 hm f0 (List.mem_cons_self ..) rfl
    have hsub := List.take_sublist i (kindFd n)
    have hf := fill_run (K + Kp) n h.lt tx' (upd T) (rowOf tx' f0 :: ((kindFd n).drop (i + 1)).map (rowOf tx')) ((kindFd n).take i) (FT.start F.id ((n : Int) + 1)) [] (fun f hf => hsub.subset hf)
      (fun f hf G => own' _ (by omega) (by omega) f (hsub.subset hf) (fun e => hnot (e ▸ hf)) G) (hnd.sublist hsub) (fun _ _ h => by cases h)
    rw [← List.map_cons, ← List.map_append, ← hsplit, List.map_nil, List.nil_append, List.map_cons] at hf
    rw [from_known _ n h.lt, hf]
    have m1 : memS (kAt n).2 f0.str = true := by rw [kindFd_str n h.lt, memS_map]; exact decide_eq_true hmem0
    have m2 : memS (((kindFd n).take i).map X30.Fd.str) f0.str = false := by rw [memS_map]; exact decide_eq_false hnot
    have hfill : ∀ G rest, fill (K + Kp) n G (((kindFd n).take i).map X30.Fd.str) (rowOf tx' f0 :: rest) = some (.inr 3) := by
      intro G rest
      unfold fill
      rw [if_pos (show memS (kAt n).2 (rowOf tx' f0).f0 = true from m1), if_neg (show ¬ memS (((kindFd n).take i).map X30.Fd.str) (rowOf tx' f0).f0 = true by rw [show (rowOf tx' f0).f0 = f0.str from rfl, m2]; exact Bool.false_ne_true),
        show fdOf (rowOf tx' f0).f0 = some f0 from fdOf_str f0, Option.bind_some, show setOf (K + Kp) G f0 (rowOf tx' f0).f1 = _ from shape' _ (by omega) G, Option.bind_some, hbad]
      simp only [Bool.false_eq_true, if_false]
    rw [hfill, Option.bind_some]

/-! ### another ID -/
def sZoe : ByteArray := ⟨#[122, 111, 101, 46, 57, 57]⟩
theorem idZoe : IdP sZoe.data.toList := by
  have : sZoe.data.toList = [122, 111, 101] ++ 46 :: [57, 57] := rfl
  rw [this, idP_iff (by decide)]
  exact ⟨by decide, ⟨122, [111, 101], rfl, by decide⟩, by decide, by decide +kernel⟩
theorem new_ok {K : Nat} {a t : ByteArray} {p : ByteArray × Int} (ha : a.size ≤ 100000) (ht : t.size ≤ 100000) (h : facename_New.f K a t 0 = some p) (hz : p.2 = 0) : IdP a.data.toList ∧ RoleP t.data.toList := by
  obtain ⟨K2, e⟩ := new_ev a t 0 ha ht
  have h1 := e (K + K2) (by omega)
  have h2 := at_rounds (fun k => facename_New.mono a t 0 k) (Nat.le_add_right K K2) h
  have h3 : p = newR a.data.toList t.data.toList 0 := Option.some.inj (h2.symm.trans h1)
  unfold newR at h3
  by_cases hc : IdP a.data.toList ∧ RoleP t.data.toList
  · exact hc
  · rw [if_neg hc] at h3; rw [h3] at hz; cases hz
theorem new_zero {a t : ByteArray} (ha : a.size ≤ 100000) (ht : t.size ≤ 100000) (h : IdP a.data.toList ∧ RoleP t.data.toList) : ∃ r : ByteArray × Int, Ev (fun k => facename_New.f k a t 0) r ∧ r.2 = 0 := by
  refine ⟨_, new_ev a t 0 ha ht, ?_⟩
  unfold newR
  rw [if_pos h, if_pos (by decide)]
def withId (F : FT) (a : ByteArray) : FT := { F with id := a }
theorem sound_id {K : Nat} {F : FT} {a : ByteArray} (hF : F.id.size ≤ 100000) (ha : a.size ≤ 100000) (hI : IdP a.data.toList) (f : X30.Fd) (h : soundOf K F f = some 0) : Ev (fun k => soundOf k (withId F a) f) 0 := by
  unfold soundOf at h
  obtain ⟨t, ht, h⟩ := Option.bind_eq_some_iff.1 h
  obtain ⟨b, hb, h⟩ := Option.bind_eq_some_iff.1 h
  cases b with
  | true => simp at h
  | false =>
    simp only [Bool.false_eq_true, if_false] at h
    have ht' : textOf (withId F a) f = some t := by rw [← ht]; cases f <;> rfl
    have hb' : Ev (fun k => badOf k (withId F a) f t) false := by
      refine Ev.of (g := fun k => badOf k (withId F a) f t) (k := K) (fun k => ?_) (by rw [← hb]; unfold badOf; cases f <;> rfl)
      unfold badOf
      exact LeO.ite (LeO.map _ (resolve_Parse.mono _ k)) (LeO.refl _)
    have hl' : Ev (fun k => lastOf k (withId F a) f t) 0 := by
      unfold lastOf at h ⊢
      by_cases h1 : t.toList.isEmpty = true
      · rw [if_pos h1] at h; cases h
      · simp only [if_neg h1] at h ⊢
        by_cases h2 : 2000 < t.size
        · rw [if_pos h2] at h; cases h
        · simp only [if_neg h2] at h ⊢
          cases hsk : f.isSketch with
          | false => simp only [Bool.false_eq_true, if_false]; exact Ev.now 0
          | true =>
            simp only [hsk, if_true] at h ⊢
            have hkk : (withId F a).kind = F.kind := rfl
            rw [hkk]
            by_cases h3 : F.kind = 7 ∧ t.toList ≠ [120] ∧ t.toList ≠ [121] ∧ t.toList ≠ [122]
            · rw [if_pos h3] at h; cases h
            · simp only [if_neg h3] at h ⊢
              by_cases h4 : F.kind = 8
              · simp only [if_pos h4] at h ⊢
                obtain ⟨p, hp, hz⟩ := Option.map_eq_some_iff.1 h
                by_cases hz0 : p.2 = 0
                · obtain ⟨-, hR⟩ := new_ok hF (by omega) hp hz0
                  obtain ⟨r, hr, hr0⟩ := new_zero ha (by omega : t.size ≤ 100000) ⟨hI, hR⟩
                  have := Ev.mapO (f := fun p : ByteArray × Int => if p.2 = 0 then (0 : Int) else 3) hr
                  rw [if_pos hr0] at this
                  exact this
                · rw [if_neg hz0] at hz; cases hz
              · simp only [if_neg h4]; exact Ev.now 0
    refine Ev.congr (fun k => by unfold soundOf; rw [ht', Option.bind_some]) (Ev.bind (f := fun k bad => if bad then some 3 else lastOf k (withId F a) f t) hb' ?_)
    exact hl'
theorem check_id {K : Nat} {F : FT} {a : ByteArray} (hF : F.id.size ≤ 100000) (ha : a.size ≤ 100000) (hI : IdP a.data.toList) (h : checkOf K F = some 0) : Ev (fun k => checkOf k (withId F a)) 0 := by
  unfold checkOf at h
  obtain ⟨p, hp, h⟩ := Option.bind_eq_some_iff.1 h
  by_cases h1 : p.2 = 0
  case neg => rw [if_neg h1] at h; cases h
  rw [if_pos h1] at h
  by_cases h2 : 1 ≤ F.kind ∧ F.kind ≤ 8
  case neg => rw [if_neg h2] at h; cases h
  rw [if_pos h2] at h
  by_cases h3 : allFd.any (extra F (F.kind - 1).toNat) = true
  case pos => rw [if_pos h3] at h; cases h
  rw [if_neg h3] at h
  obtain ⟨-, hR⟩ := new_ok hF (by decide) hp h1
  obtain ⟨r, hr, hr0⟩ := new_zero ha (by decide : sSide.size ≤ 100000) ⟨hI, hR⟩
  have h3' : ¬ allFd.any (extra (withId F a) (F.kind - 1).toNat) = true := by
    have : extra (withId F a) (F.kind - 1).toNat = extra F (F.kind - 1).toNat := by funext f; cases f <;> rfl
    rw [this]; exact h3
  have hall : ∀ l : List X30.Fd, soundAll K F l = some 0 → Ev (fun k => soundAll k (withId F a) l) 0 := by
    intro l
    induction l with
    | nil => intro _; exact Ev.now 0
    | cons f l ih =>
      intro h
      have hf := soundAll_zero h f (List.mem_cons_self ..)
      have hl : soundAll K F l = some 0 := by
        unfold soundAll at h
        rw [hf, Option.bind_some, if_pos rfl] at h
        exact h
      refine Ev.bind (f := fun k e => if e = 0 then soundAll k (withId F a) l else some e) (sound_id hF ha hI f hf) ?_
      simp only [if_true]
      exact ih hl
  refine Ev.bind (f := fun k (p : ByteArray × Int) => if p.2 = 0 then
    (if 1 ≤ (withId F a).kind ∧ (withId F a).kind ≤ 8 then (if allFd.any (extra (withId F a) ((withId F a).kind - 1).toNat) then some 1 else soundAll k (withId F a) (kindFd ((withId F a).kind - 1).toNat)) else some 11)
  else some 7) hr ?_
  simp only [if_pos hr0]
  have hkk : (withId F a).kind = F.kind := rfl
  simp only [hkk, if_pos h2, if_neg h3']
  exact hall _ h
/-- The same fields under another ID. -/
theorem from_id {K n : Nat} {F : FT} (hc : checkOf K F = some 0) (h : Sound K F n) (hw : FT.wt F ≤ 5000) (tx : X30.Fd → ByteArray) (htx : ∀ f ∈ kindFd n, textOf F f = some (tx f)) (a : ByteArray) (ha : a.size ≤ 100000) (hI : IdP a.data.toList) :
    ∃ K', fromFields K' a (kAt n).1 ((kindFd n).map (rowOf tx)) = some (withId F a, 0) := by
  obtain ⟨Kc, hcT⟩ := check_id (by unfold FT.wt at hw; omega) ha hI hc
  have hat : checkOf (K + Kc) F = some 0 := at_rounds (fun k => checkOf_mono k F) (Nat.le_add_right K Kc) hc
  obtain ⟨m, hm⟩ := sound_of hat
  obtain rfl : m = n := by have := hm.kind; have := h.kind; omega
  refine ⟨K + Kc, ?_⟩
  have hf := fill_run (K + Kc) m h.lt tx (upd F) [] (kindFd m) (FT.start a ((m : Int) + 1)) [] (fun f hf => hf) (fun f hf G => set_own hm tx htx f hf G) (kindFd_nodup m h.lt) (fun _ _ h => by cases h)
  rw [List.append_nil, List.map_nil, List.nil_append] at hf
  have hfold : (kindFd m).foldl (upd F) (FT.start a ((m : Int) + 1)) = withId F a := by
    have e := fold_of (withId F a) m h.lt h.kind (fun f hf => by have := h.none f hf; rw [← this]; cases f <;> rfl)
    have eu : upd (withId F a) = upd F := by funext G f; cases f <;> rfl
    rw [eu] at e
    exact e
  rw [from_known _ m h.lt, hf, hfold]
  simp only [fill, Option.bind_some]
  have hcc : checkOf (K + Kc) (withId F a) = some 0 := hcT _ (by omega)
  rw [if_neg (by rw [List.length_map, kindFd_str m h.lt, List.length_map]; omega), hcc, Option.bind_some, if_pos rfl]
theorem fields_id (F : FT) (a : ByteArray) : fieldsOf (withId F a) = fieldsOf F := by
  unfold fieldsOf
  have e : textOf (withId F a) = textOf F := by funext f; cases f <;> rfl
  rw [e]
  rfl

end Go.Proofs.YtoccbcfjbingbaaGreatDoor.P30
