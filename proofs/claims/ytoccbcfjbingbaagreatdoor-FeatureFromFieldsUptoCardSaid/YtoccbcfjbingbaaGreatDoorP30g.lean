/- The two readings of a reference (resolve.Parse and the reference implementation's) come to the same; the reference's own text of a reference is the pieces joined. -/
import Derived.Test.YtoccbcfjbingbaaGreatDoorP30b
import Derived.Test.YtoccbcfjbingbaaGreatDoorP27all
import Derived.Test.YtoccbcfjbingbaaGreatDoorFeatB
import Derived.Test.YtoccbcfjbingbaaGreatDoorX30x16
import Derived.Test.YtoccbcfjbingbaaGreatDoorX30x12
namespace Go.Proofs.YtoccbcfjbingbaaGreatDoor.P30
open Go hiding Fd
open Go.RowKit Go.Lib Go.Proofs.YtoccbcfjbingbaaGreatDoorW.PrintWords Go.Proofs.YtoccbcfjbingbaaGreatDoorW.PrintLast Go.Proofs.YtoccbcfjbingbaaGreatDoor.X30 Go.Proofs.Facename Go.Proofs.YtoccbcfjbingbaaGreatDoor.P27
set_option linter.unusedSimpArgs false
theorem term_both (s : ByteArray) : ∃ b, Ev (fun k => resolve_isTerm.f k s) b ∧ Ev (fun k => voussoirref28_term.f k s) b := by
 obtain ⟨r, h, p⟩ := parse_ev s.size s (Nat.le_refl _)
 obtain ⟨r', h', p'⟩ := ref_ev s.size s (Nat.le_refl _)
 obtain rfl := p.unique p'
 exact ⟨r.2.2.2.2 == 0, Ev.congr (fun k => rfl) (Ev.bind (f := fun _ (bt : ByteArray × ByteArray × Int × ByteArray × Int) => some (bt.2.2.2.2 == 0)) h (Ev.now _)),
  Ev.congr (fun k => rfl) (Ev.bind (f := fun _ (bt : ByteArray × ByteArray × Int × ByteArray × Int) => some (bt.2.2.2.2 == 0)) h' (Ev.now _))⟩
theorem check_l0_both (t : ByteArray) (l : List ByteArray) (hl : l.length < 4611686018427387904) : ∀ (m i : Nat), i + m = l.length → ∃ r, Ev (fun k => resolve_Check.l0 k l (l.length : Int) (i : Int) t l) r ∧ Ev (fun k => voussoirref28_Check.l0 k (i : Int) t l) r := by
 intro m
 induction m with
 | zero =>
  intro i hi
  refine ⟨0, ⟨1, fun k hk => ?_⟩, ⟨1, fun k hk => ?_⟩⟩
  · obtain ⟨k, rfl⟩ : ∃ n, k = n + 1 := ⟨k - 1, by omega⟩
    show resolve_Check.l0 (k + 1) l _ _ t l = _
    simp only [resolve_Check.l0]
    rw [if_neg (by omega)]
  · obtain ⟨k, rfl⟩ : ∃ n, k = n + 1 := ⟨k - 1, by omega⟩
    show voussoirref28_Check.l0 (k + 1) _ t l = _
    simp only [voussoirref28_Check.l0]
    rw [if_neg (by omega)]
 | succ m ih =>
  intro i hi
  obtain ⟨r, hr, hr'⟩ := ih (i + 1) (by omega)
  obtain ⟨b, hb, hb'⟩ := term_both (rdOf ByteArray.empty l (i : Int))
  have hw : wrap64 ((i : Int) + 1) = ((i + 1 : Nat) : Int) := by unfold wrap64; omega
  have key : ∀ k, resolve_Check.l0 (k + 1) l (l.length : Int) (i : Int) t l = (resolve_isTerm.f k (rdOf ByteArray.empty l (i : Int))).bind fun b => if b = true then (if (i : Int) > 0 ∧ ¬ ((Op.bytesLess ((rdOf ByteArray.empty l (wrap64 ((i : Int) - 1))).toList) ((rdOf ByteArray.empty l (i : Int)).toList)) = true) then some 3 else resolve_Check.l0 k l (l.length : Int) ((i + 1 : Nat) : Int) t l) else some 3 := by
   intro k
   simp only [resolve_Check.l0]
   rw [if_pos (by omega), if_pos (by omega), if_pos (by omega)]
   congr 1
   funext b
   cases b with
   | false => rw [if_neg Bool.false_ne_true, if_neg Bool.false_ne_true]
   | true =>
    simp only [if_true, hw]
    by_cases h0 : (i : Int) > 0
    · have h1 : wrap64 ((i : Int) - 1) = (i : Int) - 1 := by unfold wrap64; omega
      rw [if_pos h0, if_pos (by omega), if_pos (by omega)]
      by_cases hL : (Op.bytesLess ((rdOf ByteArray.empty l (wrap64 ((i : Int) - 1))).toList) ((rdOf ByteArray.empty l (i : Int)).toList)) = true
      · rw [if_pos hL, if_neg (fun h => h.2 hL)]
      · rw [if_neg hL, if_pos ⟨h0, hL⟩]
    · rw [if_neg h0, if_neg (fun h => h0 h.1)]
  have key' : ∀ k, voussoirref28_Check.l0 (k + 1) (i : Int) t l = (voussoirref28_term.f k (rdOf ByteArray.empty l (i : Int))).bind fun b => if b = true then (if (i : Int) > 0 ∧ ¬ ((Op.bytesLess ((rdOf ByteArray.empty l (wrap64 ((i : Int) - 1))).toList) ((rdOf ByteArray.empty l (i : Int)).toList)) = true) then some 3 else voussoirref28_Check.l0 k ((i + 1 : Nat) : Int) t l) else some 3 := by
   intro k
   simp only [voussoirref28_Check.l0]
   rw [if_pos (by omega), if_pos (by omega)]
   congr 1
   funext b
   cases b with
   | false => rw [if_neg Bool.false_ne_true, if_neg Bool.false_ne_true]
   | true =>
    simp only [if_true, hw]
    by_cases h0 : (i : Int) > 0
    · have h1 : wrap64 ((i : Int) - 1) = (i : Int) - 1 := by unfold wrap64; omega
      rw [if_pos h0, if_pos (by omega), if_pos (by omega)]
      by_cases hL : (Op.bytesLess ((rdOf ByteArray.empty l (wrap64 ((i : Int) - 1))).toList) ((rdOf ByteArray.empty l (i : Int)).toList)) = true
      · rw [if_pos hL, if_neg (fun h => h.2 hL)]
      · rw [if_neg hL, if_pos ⟨h0, hL⟩]
    · rw [if_neg h0, if_neg (fun h => h0 h.1)]
  cases b with
  | false => exact ⟨3, Ev.step key (Ev.bind hb (Ev.now _)), Ev.step key' (Ev.bind hb' (Ev.now _))⟩
  | true =>
   by_cases hc : (i : Int) > 0 ∧ ¬ ((Op.bytesLess ((rdOf ByteArray.empty l (wrap64 ((i : Int) - 1))).toList) ((rdOf ByteArray.empty l (i : Int)).toList)) = true)
   · exact ⟨3, Ev.step key (Ev.bind hb (by simp only [if_true, if_pos hc]; exact Ev.now _)), Ev.step key' (Ev.bind hb' (by simp only [if_true, if_pos hc]; exact Ev.now _))⟩
   · exact ⟨r, Ev.step key (Ev.bind hb (by simp only [if_true, if_neg hc]; exact hr)), Ev.step key' (Ev.bind hb' (by simp only [if_true, if_neg hc]; exact hr'))⟩
theorem check_j0_both (t : ByteArray) (l : List ByteArray) (hl : l.length < 4611686018427387904) (b : Bool) : ∃ r, Ev (fun k => resolve_Check.j0 k b t l) r ∧ Ev (fun k => voussoirref28_Check.j0 k b t l) r := by
 cases b with
 | true => exact ⟨3, Ev.step (f := fun _ => some 3) (fun k => by simp only [resolve_Check.j0, if_true]) (Ev.now _), Ev.step (f := fun _ => some 3) (fun k => by simp only [voussoirref28_Check.j0, if_true]) (Ev.now _)⟩
 | false =>
  obtain ⟨r, hr, hr'⟩ := check_l0_both t l hl l.length 0 (by omega)
  exact ⟨r, Ev.step (f := fun k => resolve_Check.l0 k l (l.length : Int) ((0 : Nat) : Int) t l) (fun k => by simp only [resolve_Check.j0, Bool.false_eq_true, if_false]; rfl) hr,
   Ev.step (f := fun k => voussoirref28_Check.l0 k ((0 : Nat) : Int) t l) (fun k => by simp only [voussoirref28_Check.j0, Bool.false_eq_true, if_false]; rfl) hr'⟩
theorem checkRef_both (t : ByteArray) (l : List ByteArray) (hl : l.length < 4611686018427387904) : ∃ r, Ev (fun k => resolve_Check.f k t l) r ∧ Ev (fun k => voussoirref28_Check.f k t l) r := by
 by_cases h : t.toList = ([103, 114, 111, 117, 110, 100] : List UInt8)
 · obtain ⟨r, hr, hr'⟩ := check_j0_both t l hl false
   exact ⟨r, Ev.congr (fun k => by unfold resolve_Check.f; rw [if_pos h]) hr, Ev.congr (fun k => by unfold voussoirref28_Check.f; rw [if_pos h]) hr'⟩
 · obtain ⟨b, hb, hb'⟩ := term_both t
   obtain ⟨r, hr, hr'⟩ := check_j0_both t l hl (!b)
   exact ⟨r, Ev.congr (fun k => by unfold resolve_Check.f; rw [if_neg h]) (Ev.bind (f := fun k t148 => resolve_Check.j0 k (!t148) t l) hb hr),
    Ev.congr (fun k => by unfold voussoirref28_Check.f; rw [if_neg h]) (Ev.bind (f := fun k t242 => voussoirref28_Check.j0 k (!t242) t l) hb' hr')⟩
theorem bt_list (s : ByteArray) (n : Nat) (h : n < s.size) : (bt s (n : Int) = 124) ↔ s.data.toList[n]? = some 124 := by
 have hs := size_list s
 have e : bt s (n : Int) = ((s[n]'h).toNat : Int) := (by simpa using (bt_at s (n : Int)) : ∀ h : n < s.size, ((s[n]'h).toNat : Int) = bt s (n : Int)) h |>.symm
 rw [e]
 have g : s.data.toList[n]? = some (s[n]'h) := by
  rw [List.getElem?_eq_getElem (by omega)]
  rfl
 rw [g]
 constructor
 · intro hh
   have : (s[n]'h).toNat = 124 := by omega
   have : s[n]'h = 124 := by apply UInt8.toNat.inj; exact this
   rw [this]
 · intro hh
   rw [Option.some.inj hh]; rfl
def splitL : List UInt8 → List (List UInt8)
 | [] => [[]]
 | c :: t => if c = 124 then [] :: splitL t else match splitL t with | x :: r => (c :: x) :: r | [] => [[c]]
def onto (p : List UInt8) : List (List UInt8) → List (List UInt8)
 | x :: r => (p ++ x) :: r
 | [] => [p]
theorem splitL_ne : ∀ l, splitL l ≠ []
 | [] => by simp [splitL]
 | c :: t => by
  unfold splitL
  split
  · simp
  · split <;> simp
theorem splitL_onto (c : UInt8) (t : List UInt8) (h : c ≠ 124) : splitL (c :: t) = onto [c] (splitL t) := by
 rw [splitL, if_neg h]
 cases splitL t <;> rfl
theorem onto_onto (p q : List UInt8) (L : List (List UInt8)) : onto p (onto q L) = onto (p ++ q) L := by
 cases L <;> simp [onto]
theorem onto_nil (L : List (List UInt8)) (h : L ≠ []) : onto [] L = L := by
 cases L with
 | nil => exact absurd rfl h
 | cons x r => rfl
theorem index_cons_ne (b c : UInt8) (l : List UInt8) (h : b ≠ c) : Lib.index (b :: l) [c] = if Lib.index l [c] == -1 then -1 else Lib.index l [c] + 1 := by
 have hp : ([c] : List UInt8).isPrefixOf (b :: l) = false := by simp [List.isPrefixOf, Ne.symm h]
 rw [Lib.index, hp]; simp
theorem split_list : ∀ l : List UInt8, splitK [124] 0 (count l [124]) l = splitL l
 | [] => by
  have : count ([] : List UInt8) [124] = 0 := by rw [count_one]; rfl
  rw [this]; rfl
 | c :: t => by
  have ih := split_list t
  by_cases h : c = 124
  · subst h
    have hix : Lib.index (124 :: t) [124] = ((0 : Nat) : Int) := by rw [Lib.index]; simp [List.isPrefixOf]
    rw [count_cons_eq, Nat.add_comm, splitL, if_pos rfl, ← ih, splitK, if_neg (by rw [hix]; decide), hix]
    rfl
  · rw [count_cons_ne c 124 t h, splitL_onto c t h, ← ih]
    cases hk : count t [124] with
    | zero => rfl
    | succ k =>
     have hm : Lib.index t [124] ≠ -1 := fun e => by rw [count_miss e] at hk; cases hk
     have hge := index_ge t [124]
     obtain ⟨j, hj⟩ : ∃ j : Nat, Lib.index t [124] = j := ⟨(Lib.index t [124]).toNat, by omega⟩
     have hix : Lib.index (c :: t) [124] = ((j + 1 : Nat) : Int) := by
      rw [index_cons_ne c 124 t h, if_neg (fun e => hm (beq_iff_eq.1 e)), hj]; omega
     have n1 : ¬ ((Lib.index t [124] == -1) = true) := fun e => hm (beq_iff_eq.1 e)
     have n2 : ¬ ((Lib.index (c :: t) [124] == -1) = true) := fun e => by have := beq_iff_eq.1 e; omega
     rw [splitK, if_neg n2, hix, splitK, if_neg n1, hj]
     rfl
theorem pieces_list (s : ByteArray) : ∀ (r m n : Nat), m ≤ n → n + r = s.size → (pieces s (r + 1) m n).map (·.data.toList) = onto ((s.data.toList.take n).drop m) (splitL (s.data.toList.drop n)) := by
 have hs := size_list s
 have hex : ∀ m n, (s.extract m n).data.toList = (s.data.toList.take n).drop m := fun m n => by rw [extract_data, List.drop_take]
 intro r
 induction r with
 | zero =>
  intro m n hmn hn
  unfold pieces
  have hdn : s.data.toList.drop n = [] := List.drop_eq_nil_of_le (by omega)
  rw [if_pos (.inl (by omega)), List.map_cons, hex, hdn]
  simp [pieces, splitL, onto]
 | succ r ih =>
  intro m n hmn hn
  have hlt : n < s.data.toList.length := by omega
  have hd : s.data.toList.drop n = s.data.toList[n] :: s.data.toList.drop (n + 1) := List.drop_eq_getElem_cons hlt
  have hb := bt_list s n (by omega)
  unfold pieces
  by_cases hc : s.data.toList[n] = 124
  · rw [if_pos (.inr (hb.2 (by rw [List.getElem?_eq_getElem hlt, hc]))), List.map_cons, ih (n + 1) (n + 1) (Nat.le_refl _) (by omega), hex, hd, splitL, if_pos hc]
    have : (s.data.toList.take (n + 1)).drop (n + 1) = [] := List.drop_eq_nil_of_le (by rw [List.length_take]; omega)
    rw [this, onto_nil _ (splitL_ne _)]
    simp [onto]
  · rw [if_neg (by
     rintro (h | h)
     · omega
     · have := hb.1 h
       rw [List.getElem?_eq_getElem hlt] at this
       exact hc (Option.some.inj this)), ih m (n + 1) (by omega) (by omega), hd, splitL_onto _ _ hc, onto_onto]
    congr 1
    rw [List.take_succ_eq_append_getElem hlt, List.drop_append_of_le_length (by rw [List.length_take]; omega)]
theorem split_both (s : ByteArray) : pieces s (s.size + 1) 0 0 = splitB ⟨#[124]⟩ 0 (countB s ⟨#[124]⟩) s := by
 have h1 := pieces_list s s.size 0 0 (Nat.le_refl _) (by omega)
 have h2 : (splitB ⟨#[124]⟩ 0 (countB s ⟨#[124]⟩) s).map (·.data.toList) = splitL s.data.toList := by
  rw [splitB_data]
  exact split_list s.data.toList
 have h3 : onto ((s.data.toList.take 0).drop 0) (splitL (s.data.toList.drop 0)) = splitL s.data.toList := onto_nil _ (splitL_ne _)
 rw [h3, ← h2] at h1
 exact (List.map_inj_right (fun a b h => str_ext h)).1 h1
theorem parseRef_both (s : ByteArray) (hs : s.size ≤ 1000000) : ∃ r, Ev (fun k => resolve_Parse.f k s) r ∧ Ev (fun k => voussoirref28_Parse.f k s) r := by
 have hl := splitB_len s ⟨#[124]⟩ (by decide)
 have hc := countB_le ⟨#[124]⟩ (by decide) s.size s (Nat.le_refl _)
 have hsp : strings_Split.f s ⟨#[124]⟩ = some (splitB ⟨#[124]⟩ 0 (countB s ⟨#[124]⟩) s) := by unfold strings_Split.f; rw [if_pos ⟨by omega, by decide⟩]
 have hrf : refSplit s = some (splitB ⟨#[124]⟩ 0 (countB s ⟨#[124]⟩) s) := by unfold refSplit; rw [if_pos (by omega), split_both]
 obtain ⟨t, rest, e⟩ : ∃ t rest, splitB ⟨#[124]⟩ 0 (countB s ⟨#[124]⟩) s = t :: rest := by
  cases h : splitB ⟨#[124]⟩ 0 (countB s ⟨#[124]⟩) s with
  | nil => rw [h] at hl; simp at hl
  | cons t rest => exact ⟨t, rest, rfl⟩
 rw [e] at hl hsp hrf
 obtain ⟨r, hr, hr'⟩ := checkRef_both t rest (by simp at hl; omega)
 have fin : Ev (fun _ => if r = 0 then some (t, rest, true) else some ((⟨#[]⟩ : ByteArray), ([] : List ByteArray), false)) (if r = 0 then (t, rest, true) else (⟨#[]⟩, [], false)) := by
  by_cases h : r = 0 <;> simp only [h, if_true, if_false] <;> exact Ev.now _
 exact ⟨_, Ev.congr (fun k => by unfold resolve_Parse.f; rw [hsp, Option.bind_some]) (Ev.bind (f := fun _ e => if e = 0 then some (t, rest, true) else some (⟨#[]⟩, [], false)) hr fin),
  Ev.congr (fun k => by unfold voussoirref28_Parse.f; rw [hrf, Option.bind_some]) (Ev.bind (f := fun _ e => if e = 0 then some (t, rest, true) else some (⟨#[]⟩, [], false)) hr' fin)⟩
theorem text_l0 (t0 : ByteArray) (l : List ByteArray) (hl : l.length < 4611686018427387904) : ∀ (rest pre : List ByteArray), l = pre ++ rest → ∀ (acc : ByteArray), acc.size + wt rest ≤ 4611686018427387904 → ∀ k, rest.length < k →
 voussoirref28_Text.l0 k acc (pre.length : Int) t0 l = some ⟨(acc.data.toList ++ joinTail [124] (rest.map (·.data.toList))).toArray⟩ := by
 intro rest
 induction rest with
 | nil =>
  intro pre h acc ha k hk
  obtain ⟨k, rfl⟩ : ∃ n, k = n + 1 := ⟨k - 1, by omega⟩
  simp only [voussoirref28_Text.l0]
  rw [h, List.append_nil, if_neg (by omega)]
  congr 1
  apply str_ext
  simp [joinTail]
 | cons s rest ih =>
  intro pre h acc ha k hk
  obtain ⟨k, rfl⟩ : ∃ n, k = n + 1 := ⟨k - 1, by simp at hk; omega⟩
  have hlen : l.length = pre.length + rest.length + 1 := by rw [h]; simp; omega
  have hs : rdOf ByteArray.empty l (pre.length : Int) = s := by
   unfold rdOf
   rw [h]
   simp
  rw [wt_cons] at ha
  have z1 : (acc ++ (⟨#[124]⟩ : ByteArray)).size = acc.size + 1 := by rw [sz_app]; rfl
  simp only [voussoirref28_Text.l0]
  rw [if_pos (by omega), if_pos (by omega), if_pos (by omega), hs, if_pos (by rw [z1]; omega), show wrap64 ((pre.length : Int) + 1) = ((pre ++ [s]).length : Int) by rw [List.length_append]; unfold wrap64; simp only [List.length_cons, List.length_nil]; omega,
   ih (pre ++ [s]) (by rw [h]; simp) ((acc ++ (⟨#[124]⟩ : ByteArray)) ++ s) (by rw [sz_app, z1]; omega) k (by simp at hk; omega)]
  congr 1
  apply str_ext
  simp [joinTail]
theorem text28 (t : ByteArray) (l : List ByteArray) (h : t.size + wt l ≤ 100000) : ∃ r, Ev (fun k => voussoirref28_Text.f k t l) r ∧ resolve_Format.f t l = some r := by
 have hw := wt_length l
 refine ⟨_, ⟨l.length + 1, fun k hk => ?_⟩, (format_some t l h).1⟩
 have := text_l0 t l (by omega) l [] rfl t (by omega) k (by omega)
 show voussoirref28_Text.l0 k t 0 t l = _
 rw [show ((([] : List ByteArray).length : Nat) : Int) = 0 from rfl] at this
 rw [this, List.map_cons, join_cons]
end Go.Proofs.YtoccbcfjbingbaaGreatDoor.P30
