/- Chapter 28 in plain terms: Check, Parse, Format of references, the program's and the reference's, come to the same; the pieces of a valid reference's text are its terms; Great and Same at equal references. No memory and no walk. -/
import Derived.Test.YtkceipkedmfeiaaGreatDoorP27all
import Derived.Test.YtkceipkedmfeiaaGreatDoorFeatB
import Derived.Test.YtkceipkedmfeiaaGreatDoorX30x8
import Derived.Test.YtkceipkedmfeiaaGreatDoorX30x9
import Derived.Test.YtkceipkedmfeiaaGreatDoorUpA
import Derived.Test.YtkceipkedmfeiaaGreatDoorX30x3
namespace Go.Proofs.YtkceipkedmfeiaaGreatDoor.P30
open Go hiding Fd
open Go.RowKit Go.Lib Go.Proofs.YtkceipkedmfeiaaGreatDoorW.PrintWords Go.Proofs.YtkceipkedmfeiaaGreatDoorW.PrintLast Go.Proofs.YtkceipkedmfeiaaGreatDoor.X30 Go.Proofs.Facename Go.Proofs.YtkceipkedmfeiaaGreatDoor.P27 Go.Proofs.YtkceipkedmfeiaaGreatDoor.XU
set_option linter.unusedSimpArgs false

/-! ### sizes -/
def wt (l : List ByteArray) : Nat := (l.map fun s => s.size + 1).sum
theorem wt_cons (s : ByteArray) (l : List ByteArray) : wt (s :: l) = s.size + 1 + wt l := by unfold wt; simp
theorem wt_length (l : List ByteArray) : l.length ≤ wt l := by
  induction l with
  | nil => simp
  | cons s l ih => rw [wt_cons]; simp only [List.length_cons]; omega
theorem lens_wt (l : List ByteArray) : lens (l.map (·.data.toList)) + l.length = wt l := by
  induction l with
  | nil => rfl
  | cons s l ih =>
    rw [wt_cons]
    have := size_list s
    simp only [List.map_cons, List.length_cons, lens, List.sum_cons, List.map_cons] at ih ⊢
    omega
theorem format_some (t : ByteArray) (l : List ByteArray) (h : t.size + wt l ≤ 100000) : resolve_Format.f t l = some ⟨(join ((t :: l).map (·.data.toList)) [124]).toArray⟩ ∧ (join ((t :: l).map (·.data.toList)) [124]).length ≤ t.size + wt l := by
  have e : (join ((t :: l).map (·.data.toList)) [124]).length ≤ t.size + wt l := by
    rw [List.map_cons, join_length]
    have := lens_wt l
    have := size_list t
    simp only [lens, List.map_cons, List.sum_cons, List.length_map, List.length_cons, List.length_nil] at *
    omega
  have := wt_length l
  refine ⟨?_, e⟩
  unfold resolve_Format.f
  simp only [Option.bind_some, List.length_cons, List.length_nil]
  rw [if_pos (by omega)]
  unfold strings_Join.f
  have hx : ([t] ++ l) = t :: l := rfl
  rw [hx, show (⟨#[124]⟩ : ByteArray).data.toList = [124] from rfl, if_pos ⟨by omega, by simp only [List.length_cons]; omega⟩]
  rfl
theorem ev_unique {α : Type} {g : Nat → Option α} {a b : α} (h : Ev g a) (h' : Ev g b) : a = b := by
  obtain ⟨K, h⟩ := h
  obtain ⟨K', h'⟩ := h'
  have h1 := h (K + K') (by omega)
  have h2 := h' (K + K') (by omega)
  rw [h1] at h2
  exact Option.some.inj h2
theorem Parsed_nobar {l a b c : List UInt8} {n : Nat} (h : Parsed l a b n c) : (124 : UInt8) ∉ l := by
  induction h with
  | plain _ h =>
    rw [h.eq]
    simp only [List.mem_append, List.mem_cons, not_or]
    exact ⟨h.id.not_mem (by decide), by decide, fun e => by have := h.role.all _ e; revert this; decide, fun e => by have := digits_all _ _ e; revert this; decide⟩
  | copy _ h _ ih =>
    rw [h.eq]
    simp only [List.mem_append, List.mem_cons, not_or]
    exact ⟨h.id.not_mem (by decide), by decide, fun e => by have := digits_all _ _ e; revert this; decide, by decide, ih, by decide, by simp⟩
theorem _root_.Go.Proofs.Facename.Term.nobar {l : List UInt8} (h : Term l) : (124 : UInt8) ∉ l := by
  obtain ⟨_, _, _, _, h⟩ := h
  exact Parsed_nobar h
theorem term_both (s : ByteArray) : ∃ b, Ev (fun k => resolve_isTerm.f k s) b ∧ Ev (fun k => voussoirref28_term.f k s) b ∧ (b = true → Term s.data.toList) := by
  obtain ⟨r, h, p⟩ := parse_ev s.size s (Nat.le_refl _)
  obtain ⟨r', h', p'⟩ := ref_ev s.size s (Nat.le_refl _)
  obtain rfl := p.unique p'
  exact ⟨r.2.2.2.2 == 0, Ev.congr (fun k => rfl) (Ev.bind (f := fun _ (bt : ByteArray × ByteArray × Int × ByteArray × Int) => some (bt.2.2.2.2 == 0)) h (Ev.now _)),
    Ev.congr (fun k => rfl) (Ev.bind (f := fun _ (bt : ByteArray × ByteArray × Int × ByteArray × Int) => some (bt.2.2.2.2 == 0)) h' (Ev.now _)),
    fun hb => by
      rcases p.code with ⟨-, hT⟩ | ⟨hc, -⟩
      · exact hT
      · rw [hc] at hb; exact absurd hb (by decide)⟩
theorem check_l0_both (t : ByteArray) (l : List ByteArray) (hl : l.length < 4611686018427387904) : ∀ (m i : Nat), i + m = l.length → ∃ r, Ev (fun k => resolve_Check.l0 k l (l.length : Int) (i : Int) t l) r ∧ Ev (fun k => voussoirref28_Check.l0 k (i : Int) t l) r ∧ (r = 0 → ∀ x ∈ l.drop i, Term x.data.toList) := by
  intro m
  induction m with
  | zero =>
    intro i hi
    refine ⟨0, ⟨1, fun k hk => ?_⟩, ⟨1, fun k hk => ?_⟩, fun _ x hx => by rw [List.drop_eq_nil_of_le (by omega)] at hx; cases hx⟩
    · obtain ⟨k, rfl⟩ : ∃ n, k = n + 1 := ⟨k - 1, by omega⟩
      show resolve_Check.l0 (k + 1) l _ _ t l = _
      simp only [resolve_Check.l0]
      rw [if_neg (by omega)]
    · obtain ⟨k, rfl⟩ : ∃ n, k = n + 1 := ⟨k - 1, by omega⟩
      show voussoirref28_Check.l0 (k + 1) _ t l = _
      simp only [voussoirref28_Check.l0]
      rw [if_neg (by omega)]
  | succ m ih =>
    intro i hi
    obtain ⟨r, hr, hr', hT⟩ := ih (i + 1) (by omega)
    obtain ⟨b, hb, hb', hbT⟩ := term_both (rdOf ByteArray.empty l (i : Int))
    have hw : wrap64 ((i : Int) + 1) = ((i + 1 : Nat) : Int) := by unfold wrap64; omega
    have key : ∀ k, resolve_Check.l0 (k + 1) l (l.length : Int) (i : Int) t l = (resolve_isTerm.f k (rdOf ByteArray.empty l (i : Int))).bind fun b => if b = true then (if (i : Int) > 0 ∧ ¬ ((Op.bytesLess ((rdOf ByteArray.empty l (wrap64 ((i : Int) - 1))).toList) ((rdOf ByteArray.empty l (i : Int)).toList)) = true) then some 3 else resolve_Check.l0 k l (l.length : Int) ((i + 1 : Nat) : Int) t l) else some 3 := by
      intro k
      simp only [resolve_Check.l0]
      rw [if_pos (by omega), if_pos (by omega), if_pos (by omega)]
      congr 1
      funext b
      cases b with
      | false => rw [if_neg Bool.false_ne_true, if_neg Bool.false_ne_true]
      | true =>
        simp only [if_true, hw]
        by_cases h0 : (i : Int) > 0
        · have h1 : wrap64 ((i : Int) - 1) = (i : Int) - 1 := by unfold wrap64; omega
          rw [if_pos h0, if_pos (by omega), if_pos (by omega)]
          by_cases hL : (Op.bytesLess ((rdOf ByteArray.empty l (wrap64 ((i : Int) - 1))).toList) ((rdOf ByteArray.empty l (i : Int)).toList)) = true
          · rw [if_pos hL, if_neg (fun h => h.2 hL)]
          · rw [if_neg hL, if_pos ⟨h0, hL⟩]
        · rw [if_neg h0, if_neg (fun h => h0 h.1)]
    have key' : ∀ k, voussoirref28_Check.l0 (k + 1) (i : Int) t l = (voussoirref28_term.f k (rdOf ByteArray.empty l (i : Int))).bind fun b => if b = true then (if (i : Int) > 0 ∧ ¬ ((Op.bytesLess ((rdOf ByteArray.empty l (wrap64 ((i : Int) - 1))).toList) ((rdOf ByteArray.empty l (i : Int)).toList)) = true) then some 3 else voussoirref28_Check.l0 k ((i + 1 : Nat) : Int) t l) else some 3 := by
      intro k
      simp only [voussoirref28_Check.l0]
      rw [if_pos (by omega), if_pos (by omega)]
      congr 1
      funext b
      cases b with
      | false => rw [if_neg Bool.false_ne_true, if_neg Bool.false_ne_true]
      | true =>
        simp only [if_true, hw]
        by_cases h0 : (i : Int) > 0
        · have h1 : wrap64 ((i : Int) - 1) = (i : Int) - 1 := by unfold wrap64; omega
          rw [if_pos h0, if_pos (by omega), if_pos (by omega)]
          by_cases hL : (Op.bytesLess ((rdOf ByteArray.empty l (wrap64 ((i : Int) - 1))).toList) ((rdOf ByteArray.empty l (i : Int)).toList)) = true
          · rw [if_pos hL, if_neg (fun h => h.2 hL)]
          · rw [if_neg hL, if_pos ⟨h0, hL⟩]
        · rw [if_neg h0, if_neg (fun h => h0 h.1)]
    cases b with
    | false => exact ⟨3, Ev.step key (Ev.bind hb (Ev.now _)), Ev.step key' (Ev.bind hb' (Ev.now _)), fun h => by cases h⟩
    | true =>
      by_cases hc : (i : Int) > 0 ∧ ¬ ((Op.bytesLess ((rdOf ByteArray.empty l (wrap64 ((i : Int) - 1))).toList) ((rdOf ByteArray.empty l (i : Int)).toList)) = true)
      · exact ⟨3, Ev.step key (Ev.bind hb (by simp only [if_true, if_pos hc]; exact Ev.now _)), Ev.step key' (Ev.bind hb' (by simp only [if_true, if_pos hc]; exact Ev.now _)), fun h => by cases h⟩
      · refine ⟨r, Ev.step key (Ev.bind hb (by simp only [if_true, if_neg hc]; exact hr)), Ev.step key' (Ev.bind hb' (by simp only [if_true, if_neg hc]; exact hr')), fun h x hx => ?_⟩
        have hlt : i < l.length := by omega
        rw [List.drop_eq_getElem_cons hlt] at hx
        rcases List.mem_cons.1 hx with rfl | hx
        · have := hbT rfl
          unfold rdOf at this
          rw [Int.toNat_natCast, List.getD_eq_getElem?_getD, List.getElem?_eq_getElem hlt] at this
          exact this
        · exact hT h x hx
theorem check_j0_both (t : ByteArray) (l : List ByteArray) (hl : l.length < 4611686018427387904) (b : Bool) : ∃ r, Ev (fun k => resolve_Check.j0 k b t l) r ∧ Ev (fun k => voussoirref28_Check.j0 k b t l) r ∧ (r = 0 → b = false ∧ ∀ x ∈ l, Term x.data.toList) := by
  cases b with
  | true => exact ⟨3, Ev.step (f := fun _ => some 3) (fun k => by simp only [resolve_Check.j0, if_true]) (Ev.now _), Ev.step (f := fun _ => some 3) (fun k => by simp only [voussoirref28_Check.j0, if_true]) (Ev.now _), fun h => by cases h⟩
  | false =>
    obtain ⟨r, hr, hr', hT⟩ := check_l0_both t l hl l.length 0 (by omega)
    exact ⟨r, Ev.step (f := fun k => resolve_Check.l0 k l (l.length : Int) ((0 : Nat) : Int) t l) (fun k => by simp only [resolve_Check.j0, Bool.false_eq_true, if_false]; rfl) hr,
      Ev.step (f := fun k => voussoirref28_Check.l0 k ((0 : Nat) : Int) t l) (fun k => by simp only [voussoirref28_Check.j0, Bool.false_eq_true, if_false]; rfl) hr', fun h => ⟨rfl, hT h⟩⟩
theorem checkRef_both (t : ByteArray) (l : List ByteArray) (hl : l.length < 4611686018427387904) : ∃ r, Ev (fun k => resolve_Check.f k t l) r ∧ Ev (fun k => voussoirref28_Check.f k t l) r ∧ (r = 0 → (124 : UInt8) ∉ t.data.toList ∧ ∀ x ∈ l, (124 : UInt8) ∉ x.data.toList) := by
  by_cases h : t.toList = ([103, 114, 111, 117, 110, 100] : List UInt8)
  · obtain ⟨r, hr, hr', hT⟩ := check_j0_both t l hl false
    exact ⟨r, Ev.congr (fun k => by unfold resolve_Check.f; rw [if_pos h]) hr, Ev.congr (fun k => by unfold voussoirref28_Check.f; rw [if_pos h]) hr', fun h0 => ⟨by rw [← P27.toList_data, h]; decide, fun x hx => ((hT h0).2 x hx).nobar⟩⟩
  · obtain ⟨b, hb, hb', hbT⟩ := term_both t
    obtain ⟨r, hr, hr', hT⟩ := check_j0_both t l hl (!b)
    exact ⟨r, Ev.congr (fun k => by unfold resolve_Check.f; rw [if_neg h]) (Ev.bind (f := fun k t148 => resolve_Check.j0 k (!t148) t l) hb hr),
      Ev.congr (fun k => by unfold voussoirref28_Check.f; rw [if_neg h]) (Ev.bind (f := fun k t242 => voussoirref28_Check.j0 k (!t242) t l) hb' hr'), fun h0 => ⟨(hbT (by have := (hT h0).1; cases b <;> simp_all)).nobar, fun x hx => ((hT h0).2 x hx).nobar⟩⟩

/-! ### the pieces by either road -/
theorem bt_list (s : ByteArray) (n : Nat) (h : n < s.size) : (bt s (n : Int) = 124) ↔ s.data.toList[n]? = some 124 := by
  have hs := size_list s
  have e : bt s (n : Int) = ((s[n]'h).toNat : Int) := (by simpa using (bt_at s (n : Int)) : ∀ h : n < s.size, ((s[n]'h).toNat : Int) = bt s (n : Int)) h |>.symm
  rw [e]
  have g : s.data.toList[n]? = some (s[n]'h) := by
    rw [List.getElem?_eq_getElem (by omega)]
    rfl
  rw [g]
  constructor
  · intro hh
    have : (s[n]'h).toNat = 124 := by omega
    have : s[n]'h = 124 := by apply UInt8.toNat.inj; exact this
    rw [this]
  · intro hh
    rw [Option.some.inj hh]; rfl

def splitL : List UInt8 → List (List UInt8)
  | [] => [[]]
  | c :: t => if c = 124 then [] :: splitL t else match splitL t with | x :: r => (c :: x) :: r | [] => [[c]]
def onto (p : List UInt8) : List (List UInt8) → List (List UInt8)
  | x :: r => (p ++ x) :: r
  | [] => [p]
theorem splitL_ne : ∀ l, splitL l ≠ []
  | [] => by simp [splitL]
  | c :: t => by
    unfold splitL
    split
    · simp
    · split <;> simp
theorem splitL_len : ∀ l : List UInt8, (splitL l).length ≤ l.length + 1
  | [] => by simp [splitL]
  | c :: t => by
    have ih := splitL_len t
    unfold splitL
    split
    · simp only [List.length_cons]; omega
    · split
      · next h => rw [h] at ih; simp only [List.length_cons] at ih ⊢; omega
      · simp
theorem size_list' (s : ByteArray) : s.size = s.data.toList.length := P27.size_list s
theorem splitL_onto (c : UInt8) (t : List UInt8) (h : c ≠ 124) : splitL (c :: t) = onto [c] (splitL t) := by
  rw [splitL, if_neg h]
  cases splitL t <;> rfl
theorem onto_onto (p q : List UInt8) (L : List (List UInt8)) : onto p (onto q L) = onto (p ++ q) L := by
  cases L <;> simp [onto]
theorem onto_nil (L : List (List UInt8)) (h : L ≠ []) : onto [] L = L := by
  cases L with
  | nil => exact absurd rfl h
  | cons x r => rfl
theorem index_cons_ne (b c : UInt8) (l : List UInt8) (h : b ≠ c) : Lib.index (b :: l) [c] = if Lib.index l [c] == -1 then -1 else Lib.index l [c] + 1 := by
  have hp : ([c] : List UInt8).isPrefixOf (b :: l) = false := by simp [List.isPrefixOf, Ne.symm h]
  rw [Lib.index, hp]; simp
theorem split_list : ∀ l : List UInt8, splitK [124] 0 (count l [124]) l = splitL l
  | [] => by
    have : count ([] : List UInt8) [124] = 0 := by rw [count_one]; rfl
    rw [this]; rfl
  | c :: t => by
    have ih := split_list t
    by_cases h : c = 124
    · subst h
      have hix : Lib.index (124 :: t) [124] = ((0 : Nat) : Int) := by rw [Lib.index]; simp [List.isPrefixOf]
      rw [count_cons_eq, Nat.add_comm, splitL, if_pos rfl, ← ih, splitK, if_neg (by rw [hix]; decide), hix]
      rfl
    · rw [count_cons_ne c 124 t h, splitL_onto c t h, ← ih]
      cases hk : count t [124] with
      | zero => rfl
      | succ k =>
        have hm : Lib.index t [124] ≠ -1 := fun e => by rw [count_miss e] at hk; cases hk
        have hge := index_ge t [124]
        obtain ⟨j, hj⟩ : ∃ j : Nat, Lib.index t [124] = j := ⟨(Lib.index t [124]).toNat, by omega⟩
        have hix : Lib.index (c :: t) [124] = ((j + 1 : Nat) : Int) := by
          rw [index_cons_ne c 124 t h, if_neg (fun e => hm (beq_iff_eq.1 e)), hj]; omega
        have n1 : ¬ ((Lib.index t [124] == -1) = true) := fun e => hm (beq_iff_eq.1 e)
        have n2 : ¬ ((Lib.index (c :: t) [124] == -1) = true) := fun e => by have := beq_iff_eq.1 e; omega
        rw [splitK, if_neg n2, hix, splitK, if_neg n1, hj]
        rfl
theorem pieces_list (s : ByteArray) : ∀ (r m n : Nat), m ≤ n → n + r = s.size → (pieces s (r + 1) m n).map (·.data.toList) = onto ((s.data.toList.take n).drop m) (splitL (s.data.toList.drop n)) := by
  have hs := size_list s
  have hex : ∀ m n, (s.extract m n).data.toList = (s.data.toList.take n).drop m := fun m n => by rw [extract_data, List.drop_take]
  intro r
  induction r with
  | zero =>
    intro m n hmn hn
    unfold pieces
    have hdn : s.data.toList.drop n = [] := List.drop_eq_nil_of_le (by omega)
    rw [if_pos (.inl (by omega)), List.map_cons, hex, hdn]
    simp [pieces, splitL, onto]
  | succ r ih =>
    intro m n hmn hn
    have hlt : n < s.data.toList.length := by omega
    have hd : s.data.toList.drop n = s.data.toList[n] :: s.data.toList.drop (n + 1) := List.drop_eq_getElem_cons hlt
    have hb := bt_list s n (by omega)
    unfold pieces
    by_cases hc : s.data.toList[n] = 124
    · rw [if_pos (.inr (hb.2 (by rw [List.getElem?_eq_getElem hlt, hc]))), List.map_cons, ih (n + 1) (n + 1) (Nat.le_refl _) (by omega), hex, hd, splitL, if_pos hc]
      have : (s.data.toList.take (n + 1)).drop (n + 1) = [] := List.drop_eq_nil_of_le (by rw [List.length_take]; omega)
      rw [this, onto_nil _ (splitL_ne _)]
      simp [onto]
    · rw [if_neg (by
        rintro (h | h)
        · omega
        · have := hb.1 h
          rw [List.getElem?_eq_getElem hlt] at this
          exact hc (Option.some.inj this)), ih m (n + 1) (by omega) (by omega), hd, splitL_onto _ _ hc, onto_onto]
      congr 1
      rw [List.take_succ_eq_append_getElem hlt, List.drop_append_of_le_length (by rw [List.length_take]; omega)]
theorem split_both (s : ByteArray) : pieces s (s.size + 1) 0 0 = splitB ⟨#[124]⟩ 0 (countB s ⟨#[124]⟩) s := by
  have h1 := pieces_list s s.size 0 0 (Nat.le_refl _) (by omega)
  have h2 : (splitB ⟨#[124]⟩ 0 (countB s ⟨#[124]⟩) s).map (·.data.toList) = splitL s.data.toList := by
    rw [splitB_data]
    exact split_list s.data.toList
  have h3 : onto ((s.data.toList.take 0).drop 0) (splitL (s.data.toList.drop 0)) = splitL s.data.toList := onto_nil _ (splitL_ne _)
  rw [h3, ← h2] at h1
  exact (List.map_inj_right (fun a b h => str_ext h)).1 h1

theorem parse28 (s : ByteArray) (hs : s.size ≤ 1000000) : ∃ t rest e, (t :: rest).map (·.data.toList) = splitL s.data.toList ∧ Ev (fun k => resolve_Check.f k t rest) e ∧
    Ev (fun k => resolve_Parse.f k s) (if e = 0 then (t, rest, true) else (⟨#[]⟩, [], false)) ∧ Ev (fun k => voussoirref28_Parse.f k s) (if e = 0 then (t, rest, true) else (⟨#[]⟩, [], false)) := by
  have hl := splitB_len s ⟨#[124]⟩ (by decide)
  have hc := countB_le ⟨#[124]⟩ (by decide) s.size s (Nat.le_refl _)
  have hd : (splitB ⟨#[124]⟩ 0 (countB s ⟨#[124]⟩) s).map (·.data.toList) = splitL s.data.toList := by
    rw [splitB_data]
    exact split_list s.data.toList
  have hsp : strings_Split.f s ⟨#[124]⟩ = some (splitB ⟨#[124]⟩ 0 (countB s ⟨#[124]⟩) s) := by unfold strings_Split.f; rw [if_pos ⟨by omega, by decide⟩]
  have hrf : refSplit s = some (splitB ⟨#[124]⟩ 0 (countB s ⟨#[124]⟩) s) := by unfold refSplit; rw [if_pos (by omega), split_both]
  obtain ⟨t, rest, e⟩ : ∃ t rest, splitB ⟨#[124]⟩ 0 (countB s ⟨#[124]⟩) s = t :: rest := by
    cases h : splitB ⟨#[124]⟩ 0 (countB s ⟨#[124]⟩) s with
    | nil => rw [h] at hl; simp at hl
    | cons t rest => exact ⟨t, rest, rfl⟩
  rw [e] at hl hsp hrf hd
  obtain ⟨r, hr, hr', -⟩ := checkRef_both t rest (by simp at hl; omega)
  have fin : Ev (fun _ => if r = 0 then some (t, rest, true) else some ((⟨#[]⟩ : ByteArray), ([] : List ByteArray), false)) (if r = 0 then (t, rest, true) else (⟨#[]⟩, [], false)) := by
    by_cases h : r = 0 <;> simp only [h, if_true, if_false] <;> exact Ev.now _
  exact ⟨t, rest, r, hd, hr, Ev.congr (fun k => by unfold resolve_Parse.f; rw [hsp, Option.bind_some]) (Ev.bind (f := fun _ e => if e = 0 then some (t, rest, true) else some (⟨#[]⟩, [], false)) hr fin),
    Ev.congr (fun k => by unfold voussoirref28_Parse.f; rw [hrf, Option.bind_some]) (Ev.bind (f := fun _ e => if e = 0 then some (t, rest, true) else some (⟨#[]⟩, [], false)) hr' fin)⟩

/-! ### the pieces and the text -/
theorem splitL_app (x : List UInt8) (hx : (124 : UInt8) ∉ x) (rest : List UInt8) : splitL (x ++ rest) = onto x (splitL rest) := by
  induction x with
  | nil => exact (onto_nil _ (splitL_ne _)).symm
  | cons c x ih =>
    simp only [List.mem_cons, not_or] at hx
    rw [List.cons_append, splitL_onto c _ (Ne.symm hx.1), ih hx.2, onto_onto]
    rfl
theorem splitL_join (r : List (List UInt8)) : ∀ x : List UInt8, (124 : UInt8) ∉ x → (∀ y ∈ r, (124 : UInt8) ∉ y) → splitL (join (x :: r) [124]) = x :: r := by
  induction r with
  | nil =>
    intro x hx _
    rw [join_one]
    have := splitL_app x hx []
    rw [List.append_nil] at this
    rw [this]
    simp [splitL, onto]
  | cons y r ih =>
    intro x hx hr
    have h1 := ih y (hr y (by simp)) (fun z hz => hr z (by simp [hz]))
    rw [join_cons] at h1 ⊢
    have e : joinTail [124] (y :: r) = 124 :: (y ++ joinTail [124] r) := by simp [joinTail]
    rw [e, splitL_app x hx, splitL, if_pos rfl, h1]
    simp [onto]
theorem join_splitL : ∀ l : List UInt8, join (splitL l) [124] = l
  | [] => by simp [splitL, join_one]
  | c :: t => by
    have ih := join_splitL t
    obtain ⟨x, r, hx⟩ : ∃ x r, splitL t = x :: r := by
      cases h : splitL t with
      | nil => exact absurd h (splitL_ne t)
      | cons x r => exact ⟨x, r, rfl⟩
    rw [hx, join_cons] at ih
    by_cases h : c = 124
    · subst h
      rw [splitL, if_pos rfl, hx, join_cons]
      have e : joinTail [124] (x :: r) = 124 :: (x ++ joinTail [124] r) := by simp [joinTail]
      rw [e, ih]; rfl
    · rw [splitL_onto c t h, hx]
      simp only [onto, List.cons_append, List.nil_append]
      rw [join_cons, List.cons_append, ih]

/-- What has been parsed is formatted again as it stood. -/
theorem format_back (s t : ByteArray) (rest : List ByteArray) (hs : s.size ≤ 10000) (h : (t :: rest).map (·.data.toList) = splitL s.data.toList) : resolve_Format.f t rest = some s := by
  have hj : join ((t :: rest).map (·.data.toList)) [124] = s.data.toList := by rw [h, join_splitL]
  have hsz : t.size + wt rest ≤ 100000 := by
    have h1 := congrArg List.length hj
    rw [List.map_cons, join_length] at h1
    have := lens_wt rest
    have := size_list t
    have := size_list s
    simp only [lens, List.map_cons, List.sum_cons, List.length_map, List.length_cons, List.length_nil] at *
    omega
  rw [(format_some t rest hsz).1, hj]
/-- A valid reference's text is parsed back. -/
theorem parse_back (t : ByteArray) (l : List ByteArray) (h : t.size + wt l ≤ 10000) (hc : Ev (fun k => resolve_Check.f k t l) 0) : ∃ s, resolve_Format.f t l = some s ∧ Ev (fun k => resolve_Parse.f k s) (t, l, true) := by
  obtain ⟨hf, hlen⟩ := format_some t l (by omega)
  have hw := wt_length l
  obtain ⟨r, hr, -, hT⟩ := checkRef_both t l (by omega)
  obtain rfl : r = 0 := ev_unique hr hc
  obtain ⟨ht, hl⟩ := hT rfl
  refine ⟨_, hf, ?_⟩
  obtain ⟨t', rest', e, hd, he, hp, -⟩ := parse28 ⟨(join ((t :: l).map (·.data.toList)) [124]).toArray⟩ (by rw [P27.size_mk]; omega)
  have hj : (t' :: rest').map (·.data.toList) = (t :: l).map (·.data.toList) := by
    rw [hd]
    show splitL (join ((t :: l).map (·.data.toList)) [124]) = _
    rw [List.map_cons]
    exact splitL_join _ _ ht (fun y hy => by
      obtain ⟨z, hz, rfl⟩ := List.mem_map.1 hy
      exact hl z hz)
  have e1 : t' :: rest' = t :: l := (List.map_inj_right (fun a b h => str_ext h)).1 hj
  obtain ⟨rfl, rfl⟩ := List.cons.inj e1
  obtain rfl : e = 0 := ev_unique he hc
  simpa using hp

/-! ### Great and Same -/
theorem wt10_cons (s : ByteArray) (l : List ByteArray) : wt10 (s :: l) = 10 + s.size + wt10 l := by unfold wt10; simp
theorem wt10_wt (l : List ByteArray) : wt l ≤ wt10 l ∧ wt10 l ≤ 10 * wt l := by
  induction l with
  | nil => simp [wt, wt10]
  | cons s l ih => rw [wt_cons, wt10_cons]; omega
theorem same28_l0 (t : ByteArray) (l : List ByteArray) (hl : l.length < 4611686018427387904) : ∀ (m i : Nat), i + m = l.length → ∀ k, m < k → voussoirref28_Same.l0 k (i : Int) t l t l = some true := by
  intro m
  induction m with
  | zero =>
    intro i hi k hk
    obtain ⟨k, rfl⟩ : ∃ n, k = n + 1 := ⟨k - 1, by omega⟩
    simp only [voussoirref28_Same.l0]
    rw [if_neg (by omega)]
  | succ m ih =>
    intro i hi k hk
    obtain ⟨k, rfl⟩ : ∃ n, k = n + 1 := ⟨k - 1, by omega⟩
    simp only [voussoirref28_Same.l0]
    rw [if_pos (by omega), if_pos (by omega), if_pos (by omega), if_pos trivial, show wrap64 ((i : Int) + 1) = ((i + 1 : Nat) : Int) by unfold wrap64; omega]
    exact ih (i + 1) (by omega) k (by omega)
theorem same28 (t : ByteArray) (l : List ByteArray) (hl : l.length < 4611686018427387904) : voussoirref28_Same.f (l.length + 2) t l t l = some true := by
  unfold voussoirref28_Same.f
  rw [if_pos rfl]
  simp only [voussoirref28_Same.j0, bne_self_eq_false, Bool.false_eq_true, if_false]
  exact same28_l0 t l hl l.length 0 (by omega) _ (by omega)

/-! ### the reference's text -/
theorem text_l0 (t0 : ByteArray) (l : List ByteArray) (hl : l.length < 4611686018427387904) : ∀ (rest pre : List ByteArray), l = pre ++ rest → ∀ (acc : ByteArray), acc.size + wt rest ≤ 4611686018427387904 → ∀ k, rest.length < k →
    voussoirref28_Text.l0 k acc (pre.length : Int) t0 l = some ⟨(acc.data.toList ++ joinTail [124] (rest.map (·.data.toList))).toArray⟩ := by
  intro rest
  induction rest with
  | nil =>
    intro pre h acc ha k hk
    obtain ⟨k, rfl⟩ : ∃ n, k = n + 1 := ⟨k - 1, by omega⟩
    simp only [voussoirref28_Text.l0]
    rw [h, List.append_nil, if_neg (by omega)]
    congr 1
    apply str_ext
    simp [joinTail]
  | cons s rest ih =>
    intro pre h acc ha k hk
    obtain ⟨k, rfl⟩ : ∃ n, k = n + 1 := ⟨k - 1, by simp at hk; omega⟩
    have hlen : l.length = pre.length + rest.length + 1 := by rw [h]; simp; omega
    have hs : rdOf ByteArray.empty l (pre.length : Int) = s := by
      unfold rdOf
      rw [h]
      simp
    rw [wt_cons] at ha
    have z1 : (acc ++ (⟨#[124]⟩ : ByteArray)).size = acc.size + 1 := by rw [sz_app]; rfl
    simp only [voussoirref28_Text.l0]
    rw [if_pos (by omega), if_pos (by omega), if_pos (by omega), hs, if_pos (by rw [z1]; omega), show wrap64 ((pre.length : Int) + 1) = ((pre ++ [s]).length : Int) by rw [List.length_append]; unfold wrap64; simp only [List.length_cons, List.length_nil]; omega,
      ih (pre ++ [s]) (by rw [h]; simp) ((acc ++ (⟨#[124]⟩ : ByteArray)) ++ s) (by rw [sz_app, z1]; omega) k (by simp at hk; omega)]
    congr 1
    apply str_ext
    simp [joinTail]
theorem text28 (t : ByteArray) (l : List ByteArray) (h : t.size + wt l ≤ 100000) : ∃ r, Ev (fun k => voussoirref28_Text.f k t l) r ∧ resolve_Format.f t l = some r := by
  have hw := wt_length l
  refine ⟨_, ⟨l.length + 1, fun k hk => ?_⟩, (format_some t l h).1⟩
  have := text_l0 t l (by omega) l [] rfl t (by omega) k (by omega)
  show voussoirref28_Text.l0 k t 0 t l = _
  rw [show ((([] : List ByteArray).length : Nat) : Int) = 0 from rfl] at this
  rw [this, List.map_cons, join_cons]

end Go.Proofs.YtkceipkedmfeiaaGreatDoor.P30
