/- Check comes to an end at every feature whose texts are not too long; and what a feature that Check lets pass says of its fields. What a feature that Check lets pass says of its fields: each text, set again, gives back its field; and filling a feature with its own fields gives the feature. voussoirref30.Great, as a plain law: 1 exactly if the texts of a feature are together too long. What FromFields answers where a field of a sound feature is left out, given twice, or foreign. -/
import Derived.Test.YtoccbcfjbingbaaGreatDoorFeatG
import Derived.Test.YtoccbcfjbingbaaGreatDoorP27all
import Derived.Test.YtoccbcfjbingbaaGreatDoorX30x18
namespace Go.Proofs.YtoccbcfjbingbaaGreatDoor.P30
open Go hiding Fd
open Go.RowKit Go.Lib Go.Proofs.YtoccbcfjbingbaaGreatDoorW.PrintWords Go.Proofs.YtoccbcfjbingbaaGreatDoorW.PrintLast Go.Proofs.YtoccbcfjbingbaaGreatDoor.X30 Go.Proofs.Facename Go.Proofs.YtoccbcfjbingbaaGreatDoor.P27
instance : DecidableEq X30.Fd := fun a b => if h : a.ix = b.ix then isTrue (by cases a <;> cases b <;> first | rfl | cases h) else isFalse (fun e => h (congrArg _ e))
theorem Ev.mapO {α β : Type} {g : Nat → Option α} {f : α → β} {a : α} (h : Ev g a) : Ev (fun n => (g n).map f) (f a) := by
 obtain ⟨K, h⟩ := h
 exact ⟨K, fun n hn => by show (g n).map f = _; rw [h n hn]; rfl⟩
theorem isTerm_ev (s : ByteArray) : ∃ b, Ev (fun k => resolve_isTerm.f k s) b := by
 obtain ⟨r, h, -⟩ := parse_ev s.size s (Nat.le_refl _)
 exact ⟨r.2.2.2.2 == 0, Ev.congr (fun k => rfl) (Ev.bind (f := fun _ (bt : ByteArray × ByteArray × Int × ByteArray × Int) => some (bt.2.2.2.2 == 0)) h (Ev.now _))⟩
theorem check_l0_ev (t : ByteArray) (l : List ByteArray) (hl : l.length < 4611686018427387904) : ∀ (m i : Nat), i + m = l.length → ∃ r, Ev (fun k => resolve_Check.l0 k l (l.length : Int) (i : Int) t l) r := by
 intro m
 induction m with
 | zero =>
  intro i hi
  refine ⟨0, 1, fun k hk => ?_⟩
  obtain ⟨k, rfl⟩ : ∃ n, k = n + 1 := ⟨k - 1, by omega⟩
  show resolve_Check.l0 (k + 1) l _ _ t l = _
  simp only [resolve_Check.l0]
  rw [if_neg (by omega)]
 | succ m ih =>
  intro i hi
  obtain ⟨r, hr⟩ := ih (i + 1) (by omega)
  obtain ⟨b, hb⟩ := isTerm_ev (rdOf ByteArray.empty l (i : Int))
  have hw : wrap64 ((i : Int) + 1) = ((i + 1 : Nat) : Int) := by unfold wrap64; omega
  have key : ∀ k, resolve_Check.l0 (k + 1) l (l.length : Int) (i : Int) t l = (resolve_isTerm.f k (rdOf ByteArray.empty l (i : Int))).bind fun b => if b = true then (if (i : Int) > 0 ∧ ¬ ((Op.bytesLess ((rdOf ByteArray.empty l (wrap64 ((i : Int) - 1))).toList) ((rdOf ByteArray.empty l (i : Int)).toList)) = true) then some 3 else resolve_Check.l0 k l (l.length : Int) ((i + 1 : Nat) : Int) t l) else some 3 := by
   intro k
   simp only [resolve_Check.l0]
   rw [if_pos (by omega), if_pos (by omega), if_pos (by omega)]
   congr 1
   funext b
   cases b with
   | false => rw [if_neg Bool.false_ne_true, if_neg Bool.false_ne_true]
   | true =>
    simp only [if_true, hw]
    by_cases h0 : (i : Int) > 0
    · have h1 : wrap64 ((i : Int) - 1) = (i : Int) - 1 := by unfold wrap64; omega
      rw [if_pos h0, if_pos (by omega), if_pos (by omega)]
      by_cases hL : (Op.bytesLess ((rdOf ByteArray.empty l (wrap64 ((i : Int) - 1))).toList) ((rdOf ByteArray.empty l (i : Int)).toList)) = true
      · rw [if_pos hL, if_neg (fun h => h.2 hL)]
      · rw [if_neg hL, if_pos ⟨h0, hL⟩]
    · rw [if_neg h0, if_neg (fun h => h0 h.1)]
  cases b with
  | false => exact ⟨3, Ev.step key (Ev.bind hb (Ev.now _))⟩
  | true =>
   by_cases hc : (i : Int) > 0 ∧ ¬ ((Op.bytesLess ((rdOf ByteArray.empty l (wrap64 ((i : Int) - 1))).toList) ((rdOf ByteArray.empty l (i : Int)).toList)) = true)
   · exact ⟨3, Ev.step key (Ev.bind hb (by simp only [if_true, if_pos hc]; exact Ev.now _))⟩
   · exact ⟨r, Ev.step key (Ev.bind hb (by simp only [if_true, if_neg hc]; exact hr))⟩
theorem check_j0_ev (t : ByteArray) (l : List ByteArray) (hl : l.length < 4611686018427387904) (b : Bool) : ∃ r, Ev (fun k => resolve_Check.j0 k b t l) r := by
 cases b with
 | true => exact ⟨3, Ev.step (f := fun _ => some 3) (fun k => by simp only [resolve_Check.j0, if_true]) (Ev.now _)⟩
 | false =>
  obtain ⟨r, hr⟩ := check_l0_ev t l hl l.length 0 (by omega)
  exact ⟨r, Ev.step (f := fun k => resolve_Check.l0 k l (l.length : Int) ((0 : Nat) : Int) t l) (fun k => by simp only [resolve_Check.j0, Bool.false_eq_true, if_false]; rfl) hr⟩
theorem checkRef_ev (t : ByteArray) (l : List ByteArray) (hl : l.length < 4611686018427387904) : ∃ r, Ev (fun k => resolve_Check.f k t l) r := by
 by_cases h : t.toList = ([103, 114, 111, 117, 110, 100] : List UInt8)
 · obtain ⟨r, hr⟩ := check_j0_ev t l hl false
   exact ⟨r, Ev.congr (fun k => by unfold resolve_Check.f; rw [if_pos h]) hr⟩
 · obtain ⟨b, hb⟩ := isTerm_ev t
   obtain ⟨r, hr⟩ := check_j0_ev t l hl (!b)
   exact ⟨r, Ev.congr (fun k => by unfold resolve_Check.f; rw [if_neg h]) (Ev.bind (f := fun k t148 => resolve_Check.j0 k (!t148) t l) hb hr)⟩
theorem parseRef_ev (s : ByteArray) (hs : s.size < 4294967281) : ∃ r, Ev (fun k => resolve_Parse.f k s) r := by
 have hl := splitB_len s ⟨#[124]⟩ (by decide)
 have hc := countB_le ⟨#[124]⟩ (by decide) s.size s (Nat.le_refl _)
 have hsp : strings_Split.f s ⟨#[124]⟩ = some (splitB ⟨#[124]⟩ 0 (countB s ⟨#[124]⟩) s) := by unfold strings_Split.f; rw [if_pos ⟨hs, by decide⟩]
 obtain ⟨t, rest, e⟩ : ∃ t rest, splitB ⟨#[124]⟩ 0 (countB s ⟨#[124]⟩) s = t :: rest := by
  cases h : splitB ⟨#[124]⟩ 0 (countB s ⟨#[124]⟩) s with
  | nil => rw [h] at hl; simp at hl
  | cons t rest => exact ⟨t, rest, rfl⟩
 rw [e] at hl hsp
 obtain ⟨r, hr⟩ := checkRef_ev t rest (by simp at hl; omega)
 exact ⟨_, Ev.congr (fun k => by unfold resolve_Parse.f; rw [hsp, Option.bind_some]) (Ev.bind (f := fun _ e => if e = 0 then some (t, rest, true) else some (⟨#[]⟩, [], false)) hr (a := r) (r := if r = 0 then (t, rest, true) else (⟨#[]⟩, [], false)) (by by_cases h : r = 0 <;> simp only [h, if_true, if_false] <;> exact Ev.now _))⟩
def wt (l : List ByteArray) : Nat := (l.map fun s => s.size + 1).sum
def FT.wt (F : FT) : Nat := F.id.size + F.onT.size + F.andT.size + F.sketch.size + F.amount.size + F.count.size + F.x.size + F.y.size + F.z.size + P30.wt F.onA + P30.wt F.andA
theorem wt_cons (s : ByteArray) (l : List ByteArray) : wt (s :: l) = s.size + 1 + wt l := by unfold wt; simp
theorem wt_length (l : List ByteArray) : l.length ≤ wt l := by
 induction l with
 | nil => simp
 | cons s l ih => rw [wt_cons]; simp only [List.length_cons]; omega
theorem lens_wt (l : List ByteArray) : lens (l.map (·.data.toList)) + l.length = wt l := by
 induction l with
 | nil => rfl
 | cons s l ih =>
  rw [wt_cons]
  have := size_list s
  simp only [List.map_cons, List.length_cons, lens, List.sum_cons, List.map_cons] at ih ⊢
  omega
theorem format_some (t : ByteArray) (l : List ByteArray) (h : t.size + wt l ≤ 100000) : resolve_Format.f t l = some ⟨(join ((t :: l).map (·.data.toList)) [124]).toArray⟩ ∧ (join ((t :: l).map (·.data.toList)) [124]).length ≤ t.size + wt l := by
 have e : (join ((t :: l).map (·.data.toList)) [124]).length ≤ t.size + wt l := by
  rw [List.map_cons, join_length]
  have := lens_wt l
  have := size_list t
  simp only [lens, List.map_cons, List.sum_cons, List.length_map, List.length_cons, List.length_nil] at *
  omega
 have := wt_length l
 refine ⟨?_, e⟩
 unfold resolve_Format.f
 simp only [Option.bind_some, List.length_cons, List.length_nil]
 rw [if_pos (by omega)]
 unfold strings_Join.f
 have hx : ([t] ++ l) = t :: l := rfl
 rw [hx, show (⟨#[124]⟩ : ByteArray).data.toList = [124] from rfl, if_pos ⟨by omega, by simp only [List.length_cons]; omega⟩]
 rfl
theorem text_some (F : FT) (f : X30.Fd) (h : FT.wt F ≤ 10000) : ∃ t, textOf F f = some t ∧ t.size ≤ 10000 := by
 have h1 : ∀ t l, t.size + wt l ≤ 10000 → ∃ r, resolve_Format.f t l = some r ∧ r.size ≤ 10000 := fun t l hl => by
  obtain ⟨e1, e2⟩ := format_some t l (by omega)
  exact ⟨_, e1, by rw [P27.size_mk]; omega⟩
 unfold FT.wt at h
 unfold textOf
 cases f
 case on => exact h1 F.onT F.onA (by omega)
 case and => exact h1 F.andT F.andA (by omega)
 all_goals exact ⟨_, rfl, by simp only [FT.plain]; omega⟩
theorem sound_ev (F : FT) (f : X30.Fd) (h : FT.wt F ≤ 10000) : ∃ r, Ev (fun k => soundOf k F f) r := by
 obtain ⟨t, ht, hs⟩ := text_some F f h
 have hid : F.id.size ≤ 10000 := by unfold FT.wt at h; omega
 obtain ⟨bad, hbad⟩ : ∃ b, Ev (fun k => badOf k F f t) b := by
  unfold badOf
  cases f.isRef with
  | true =>
   obtain ⟨r, hr⟩ := parseRef_ev t (by omega)
   exact ⟨_, Ev.mapO hr⟩
  | false => exact ⟨_, Ev.now false⟩
 obtain ⟨last, hlast⟩ : ∃ r, Ev (fun k => lastOf k F f t) r := by
  unfold lastOf
  by_cases h1 : t.toList.isEmpty = true
  · simp only [if_pos h1]; exact ⟨_, Ev.now 9⟩
  · simp only [if_neg h1]
    by_cases h2 : 2000 < t.size
    · simp only [if_pos h2]; exact ⟨_, Ev.now 6⟩
    · simp only [if_neg h2]
      cases f.isSketch with
      | false => exact ⟨_, Ev.now 0⟩
      | true =>
       simp only [if_true]
       by_cases h3 : F.kind = 7 ∧ t.toList ≠ [120] ∧ t.toList ≠ [121] ∧ t.toList ≠ [122]
       · simp only [if_pos h3]; exact ⟨_, Ev.now 3⟩
       · simp only [if_neg h3]
         by_cases h4 : F.kind = 8
         · simp only [if_pos h4]; exact ⟨_, Ev.mapO (new_ev F.id t 0 (by omega) (by omega))⟩
         · simp only [if_neg h4]; exact ⟨_, Ev.now 0⟩
 refine ⟨if bad = true then 3 else last, Ev.congr (fun k => by unfold soundOf; rw [ht, Option.bind_some]) (Ev.bind (f := fun k bad => if bad then some 3 else lastOf k F f t) hbad ?_)⟩
 cases bad
 · exact hlast
 · exact Ev.now _
theorem soundAll_ev (F : FT) (h : FT.wt F ≤ 10000) : ∀ l : List X30.Fd, ∃ r, Ev (fun k => soundAll k F l) r
 | [] => ⟨_, Ev.now 0⟩
 | f :: l => by
  obtain ⟨e, he⟩ := sound_ev F f h
  obtain ⟨r, hr⟩ := soundAll_ev F h l
  refine ⟨if e = 0 then r else e, Ev.bind (f := fun k e => if e = 0 then soundAll k F l else some e) he ?_⟩
  by_cases hz : e = 0
  · simp only [if_pos hz]; exact hr
  · simp only [if_neg hz]; exact Ev.now _
theorem checkOf_ev (F : FT) (h : FT.wt F ≤ 10000) : ∃ r, Ev (fun k => checkOf k F) r := by
 obtain ⟨p, hp, -⟩ := side_ev F.id (by unfold FT.wt at h; omega)
 obtain ⟨r, hr⟩ := soundAll_ev F h (kindFd (F.kind - 1).toNat)
 refine ⟨if p.2 = 0 then (if 1 ≤ F.kind ∧ F.kind ≤ 8 then (if allFd.any (extra F (F.kind - 1).toNat) then 1 else r) else 11) else 7, Ev.bind (f := fun k (p : ByteArray × Int) => if p.2 = 0 then
  (if 1 ≤ F.kind ∧ F.kind ≤ 8 then (if allFd.any (extra F (F.kind - 1).toNat) then some 1 else soundAll k F (kindFd (F.kind - 1).toNat)) else some 11)
 else some 7) hp ?_⟩
 by_cases h1 : p.2 = 0
 · simp only [if_pos h1]
   by_cases h2 : 1 ≤ F.kind ∧ F.kind ≤ 8
   · simp only [if_pos h2]
     by_cases h3 : allFd.any (extra F (F.kind - 1).toNat) = true
     · simp only [if_pos h3]; exact Ev.now _
     · simp only [if_neg h3]; exact hr
   · simp only [if_neg h2]; exact Ev.now _
 · simp only [if_neg h1]; exact Ev.now _
end Go.Proofs.YtoccbcfjbingbaaGreatDoor.P30
namespace Go.Proofs.YtoccbcfjbingbaaGreatDoor.P30
open Go hiding Fd
open Go.RowKit Go.Lib Go.Proofs.YtoccbcfjbingbaaGreatDoorW.PrintWords Go.Proofs.YtoccbcfjbingbaaGreatDoorW.PrintLast Go.Proofs.YtoccbcfjbingbaaGreatDoor.X30 Go.Proofs.Facename Go.Proofs.YtoccbcfjbingbaaGreatDoor.P27
def upd (F G : FT) (f : X30.Fd) : FT := if f.isRef then G.setRef f (F.refT f) (F.refA f) else G.setPlain f (F.plain f)
def rowOf (tx : X30.Fd → ByteArray) (f : X30.Fd) : S45 := ⟨f.str, tx f⟩
structure Sound (K : Nat) (F : FT) (n : Nat) : Prop where
 kind : F.kind = (n : Int) + 1
 lt : n < 8
 none : ∀ f, f ∉ kindFd n → emptyOf F f = true
 texts : ∀ f ∈ kindFd n, ∃ t, textOf F f = some t ∧ badOf K F f t = some false ∧ lastOf K F f t = some 0
 name : ∃ r, facename_New.f K F.id sSide 0 = some r ∧ r.2 = 0
theorem empty_str {s : ByteArray} (h : s.toList.isEmpty = true) : s = ⟨#[]⟩ := by
 apply str_ext
 rw [← P27.toList_data]
 simpa using h
theorem empty_plain {F : FT} {f : X30.Fd} (hr : f.isRef = false) (h : emptyOf F f = true) : F.plain f = ⟨#[]⟩ := by
 unfold emptyOf at h
 rw [hr, if_neg Bool.false_ne_true] at h
 exact empty_str h
theorem empty_ref {F : FT} {f : X30.Fd} (hr : f.isRef = true) (h : emptyOf F f = true) : F.refT f = ⟨#[]⟩ ∧ F.refA f = [] := by
 unfold emptyOf at h
 rw [hr, if_pos rfl, Bool.and_eq_true, decide_eq_true_eq] at h
 exact ⟨empty_str h.1, List.length_eq_zero_iff.1 h.2⟩
end Go.Proofs.YtoccbcfjbingbaaGreatDoor.P30
namespace Go.Proofs.YtoccbcfjbingbaaGreatDoor.P30
open Go hiding Fd
open Go.RowKit Go.Lib Go.Proofs.YtoccbcfjbingbaaGreatDoorW.PrintWords Go.Proofs.YtoccbcfjbingbaaGreatDoorW.PrintLast Go.Proofs.YtoccbcfjbingbaaGreatDoor.X30 Go.Proofs.Facename Go.Proofs.YtoccbcfjbingbaaGreatDoor.P27
def greatOf (F : FT) : Int := if FT.wt F > 5000 then 1 else 0
end Go.Proofs.YtoccbcfjbingbaaGreatDoor.P30
namespace Go.Proofs.YtoccbcfjbingbaaGreatDoor.P30
open Go hiding Fd
open Go.RowKit Go.Lib Go.Proofs.YtoccbcfjbingbaaGreatDoorW.PrintWords Go.Proofs.YtoccbcfjbingbaaGreatDoorW.PrintLast Go.Proofs.YtoccbcfjbingbaaGreatDoor.X30 Go.Proofs.Facename Go.Proofs.YtoccbcfjbingbaaGreatDoor.P27
end Go.Proofs.YtoccbcfjbingbaaGreatDoor.P30
