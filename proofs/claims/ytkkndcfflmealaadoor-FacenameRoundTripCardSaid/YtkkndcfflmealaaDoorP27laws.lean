/- FacenameNews, FacenameParses, FacenameRoundTrip as pure statements: New, Copy and Parse agree with the reference, and Parse inverts New and Copy. -/
import Derived.Test.YtkkndcfflmealaaDoorP27refparse
namespace Go.Proofs.YtkkndcfflmealaaDoor.P27
open Go Go.RowKit Go.Lib Go.Proofs.YtkkndcfflmealaaDoorW.PrintWords Go.Proofs.YtkkndcfflmealaaDoorW.PrintLast Go.Proofs.YtkkndcfflmealaaDoor.X27 Go.Proofs.Facename

open Classical in
noncomputable def newR (id role : List UInt8) (i : Int) : ByteArray × Int :=
  if IdP id ∧ RoleP role then (if 0 ≤ i ∧ i ≤ 999 then (⟨(id ++ 58 :: (role ++ decDigits i.toNat)).toArray⟩, 0) else (⟨#[]⟩, 2)) else (⟨#[]⟩, 7)
open Classical in
noncomputable def copyR (id : List UInt8) (n : Int) (of : List UInt8) : ByteArray × Int :=
  if IdP id then (if 1 ≤ n ∧ n ≤ 99 then (if Term of then (if 200 < (id ++ 35 :: (decDigits n.toNat ++ 40 :: (of ++ [41]))).length then (⟨#[]⟩, 6) else (⟨(id ++ 35 :: (decDigits n.toNat ++ 40 :: (of ++ [41]))).toArray⟩, 0)) else (⟨#[]⟩, 3)) else (⟨#[]⟩, 2)) else (⟨#[]⟩, 7)

theorem itoa_eq (n : Int) (h0 : 0 ≤ n) (h1 : n ≤ 999) : strconv_Itoa.f n = some ⟨(decDigits n.toNat).toArray⟩ := by
  unfold strconv_Itoa.f itoa
  rw [if_pos (by omega), if_neg (by omega)]
theorem decLen (n : Int) (h1 : n ≤ 999) : (decDigits n.toNat).length ≤ 3 := by
  rw [decDigits_length]; exact nDigits_le 2 _ (by omega)
theorem dec_ev' (n : Int) (h0 : 0 ≤ n) (h1 : n ≤ 999) : Ev (fun k => voussoirref27_dec.f k n) (⟨(decDigits n.toNat).toArray⟩ : ByteArray) := by
  obtain ⟨m, rfl⟩ : ∃ m : Nat, n = m := ⟨n.toNat, by omega⟩
  rw [Int.toNat_natCast]
  exact dec_ev m (by omega)

theorem cat_new (a0 a1 d : ByteArray) : ((a0 ++ (⟨#[58]⟩ : ByteArray)) ++ a1) ++ d = ⟨(a0.data.toList ++ 58 :: (a1.data.toList ++ d.data.toList)).toArray⟩ := by
  apply str_ext; simp
theorem cat_copy (a0 a2 d : ByteArray) : ((((a0 ++ (⟨#[35]⟩ : ByteArray)) ++ d) ++ (⟨#[40]⟩ : ByteArray)) ++ a2) ++ (⟨#[41]⟩ : ByteArray) = ⟨(a0.data.toList ++ 35 :: (d.data.toList ++ 40 :: (a2.data.toList ++ [41]))).toArray⟩ := by
  apply str_ext; simp
theorem sz_app (a b : ByteArray) : (a ++ b).size = a.size + b.size := ByteArray.size_append
theorem sz1 (c : UInt8) : (⟨#[c]⟩ : ByteArray).size = 1 := rfl

theorem new_ev (a0 a1 : ByteArray) (i : Int) (h0 : a0.size ≤ 600) (h1 : a1.size ≤ 600) : Ev (fun k => facename_New.f k a0 a1 i) (newR a0.data.toList a1.data.toList i) := by
  obtain ⟨r0, e0, p0⟩ := isId_eq a0 (by omega)
  obtain ⟨r1, e1, p1⟩ := isRole_eq a1 (by omega)
  refine ⟨2, fun k hk => ?_⟩
  obtain ⟨k, rfl⟩ : ∃ m, k = m + 2 := ⟨k - 2, by omega⟩
  have j0t : facename_New.j0 (k + 2) a0 a1 i true = some ((⟨#[]⟩ : ByteArray), 7) := by
    simp only [facename_New.j0]; rw [if_pos trivial]
  show facename_New.f (k + 1 + 1) a0 a1 i = _
  unfold facename_New.f newR
  rw [e0 (k + 1), Option.bind_some]
  by_cases hr0 : r0 = true
  · rw [if_pos hr0, e1, Option.bind_some]
    by_cases hr1 : r1 = true
    · rw [if_pos ⟨p0.1 hr0, p1.1 hr1⟩, hr1]
      show facename_New.j0 (k + 1 + 1) a0 a1 i false = _
      simp only [facename_New.j0]
      rw [if_neg (by exact Bool.false_ne_true)]
      by_cases hi : 0 ≤ i ∧ i ≤ 999
      · have hd := decLen i hi.2
        have z1 := sz_app a0 ⟨#[58]⟩
        have z2 := sz_app (a0 ++ (⟨#[58]⟩ : ByteArray)) a1
        have z3 := size_mk (decDigits i.toNat)
        rw [sz1] at z1
        rw [if_pos hi, if_neg (by omega), if_neg (by omega), if_pos (by omega), if_pos (by omega), itoa_eq i hi.1 hi.2, Option.bind_some, if_pos (by omega), cat_new]
      · rw [if_neg hi]
        by_cases h : i < 0
        · rw [if_pos h]
        · rw [if_neg h, if_pos (by omega)]
    · rw [if_neg (fun h => hr1 (p1.2 h.2))]
      cases r1
      · exact j0t
      · exact absurd rfl hr1
  · rw [if_neg hr0, if_neg (fun h => hr0 (p0.2 h.1))]
    exact j0t

theorem make_ev (a0 a1 : ByteArray) (i : Int) (h0 : a0.size ≤ 600) (h1 : a1.size ≤ 600) : Ev (fun k => voussoirref27_Make.f k a0 a1 i) (newR a0.data.toList a1.data.toList i) := by
  obtain ⟨r0, ⟨K0, e0⟩, p0⟩ := Id_ev a0 (by omega)
  obtain ⟨r1, ⟨K1, e1⟩, p1⟩ := Role_ev a1 (by omega)
  obtain ⟨K2, e2⟩ : ∃ K2, 0 ≤ i ∧ i ≤ 999 → ∀ k, K2 ≤ k → voussoirref27_dec.f k i = some ⟨(decDigits i.toNat).toArray⟩ := by
    by_cases hi : 0 ≤ i ∧ i ≤ 999
    · obtain ⟨K, h⟩ := dec_ev' i hi.1 hi.2; exact ⟨K, fun _ => h⟩
    · exact ⟨0, fun h => absurd h hi⟩
  refine ⟨K0 + K1 + K2 + 2, fun k hk => ?_⟩
  obtain ⟨k, rfl⟩ : ∃ m, k = m + 1 := ⟨k - 1, by omega⟩
  have j0t : voussoirref27_Make.j0 (k + 1) a0 a1 i true = some ((⟨#[]⟩ : ByteArray), 7) := by
    simp only [voussoirref27_Make.j0]; rw [if_pos trivial]
  show voussoirref27_Make.f (k + 1) a0 a1 i = _
  unfold voussoirref27_Make.f newR
  have g0 : voussoirref27_Id.f (k + 1) a0 = some r0 := e0 (k + 1) (by omega)
  have g1 : voussoirref27_Role.f (k + 1) a1 = some r1 := e1 (k + 1) (by omega)
  rw [g0, Option.bind_some]
  rcases p0 with ⟨hr0, p0⟩ | ⟨hr0, p0⟩
  · rw [if_neg (by omega), g1, Option.bind_some]
    rcases p1 with ⟨hr1, p1⟩ | ⟨hr1, p1⟩
    · rw [if_pos ⟨p0, p1⟩, hr1]
      show voussoirref27_Make.j0 (k + 1) a0 a1 i false = _
      simp only [voussoirref27_Make.j0]
      rw [if_neg (by exact Bool.false_ne_true)]
      by_cases hi : 0 ≤ i ∧ i ≤ 999
      · have hd := decLen i hi.2
        have z1 := sz_app a0 ⟨#[58]⟩
        have z2 := sz_app (a0 ++ (⟨#[58]⟩ : ByteArray)) a1
        have z3 := size_mk (decDigits i.toNat)
        rw [sz1] at z1
        rw [if_pos hi, if_neg (by omega), if_neg (by omega), if_pos (by omega), if_pos (by omega), e2 hi k (by omega), Option.bind_some, if_pos (by omega), cat_new]
      · rw [if_neg hi]
        by_cases h : i < 0
        · rw [if_pos h]
        · rw [if_neg h, if_pos (by omega)]
    · rw [if_neg (fun h => p1 h.2), hr1]
      exact j0t
  · rw [if_pos hr0, if_neg (fun h => p0 h.1)]
    exact j0t

theorem copy_ev (a0 : ByteArray) (n : Int) (a2 : ByteArray) (h0 : a0.size ≤ 600) (h2 : a2.size ≤ 600) : Ev (fun k => facename_Copy.f k a0 n a2) (copyR a0.data.toList n a2.data.toList) := by
  obtain ⟨r0, e0, p0⟩ := isId_eq a0 (by omega)
  obtain ⟨r2, ⟨K, e2⟩, p2⟩ := parse_ev a2.size a2 (Nat.le_refl _)
  refine ⟨K + 2, fun k hk => ?_⟩
  obtain ⟨k, rfl⟩ : ∃ m, k = m + 1 := ⟨k - 1, by omega⟩
  show facename_Copy.f (k + 1) a0 n a2 = _
  have g2 : facename_Parse.f (k + 1) a2 = some r2 := e2 (k + 1) (by omega)
  unfold facename_Copy.f copyR
  rw [e0 k, Option.bind_some]
  by_cases hr0 : r0 = true
  · rw [if_pos hr0, if_pos (p0.1 hr0)]
    by_cases hn : 1 ≤ n ∧ n ≤ 99
    · rw [if_pos hn, if_neg (by omega), if_neg (by omega), g2, Option.bind_some]
      rcases p2.code with ⟨hc, hT⟩ | ⟨hc, hT⟩
      · have hd := decLen n (by omega)
        have z1 := sz_app a0 ⟨#[35]⟩
        have z2 := sz_app (a0 ++ (⟨#[35]⟩ : ByteArray)) (⟨(decDigits n.toNat).toArray⟩ : ByteArray)
        have z3 := sz_app ((a0 ++ (⟨#[35]⟩ : ByteArray)) ++ (⟨(decDigits n.toNat).toArray⟩ : ByteArray)) ⟨#[40]⟩
        have z4 := sz_app (((a0 ++ (⟨#[35]⟩ : ByteArray)) ++ (⟨(decDigits n.toNat).toArray⟩ : ByteArray)) ++ ⟨#[40]⟩) a2
        have z5 := size_mk (decDigits n.toNat)
        rw [sz1] at z1 z3
        rw [if_pos hc, if_pos hT, if_pos (by omega), itoa_eq n (by omega) (by omega), Option.bind_some, if_pos (by omega), if_pos (by omega), if_pos (by omega), if_pos (by omega), cat_copy, size_mk]
        rw [show (⟨(decDigits n.toNat).toArray⟩ : ByteArray).data.toList = decDigits n.toNat from rfl]
        by_cases hL : 200 < (a0.data.toList ++ 35 :: (decDigits n.toNat ++ 40 :: (a2.data.toList ++ [41]))).length
        · rw [if_pos (by omega), if_pos hL]
        · rw [if_neg (by omega), if_neg hL]
      · rw [if_neg (by omega), if_neg hT]
    · rw [if_neg hn]
      by_cases h : n < 1
      · rw [if_pos h]
      · rw [if_neg h, if_pos (by omega)]
  · rw [if_neg hr0, if_neg (fun h => hr0 (p0.2 h))]

theorem wrap_ev (a0 : ByteArray) (n : Int) (a2 : ByteArray) (h0 : a0.size ≤ 600) (h2 : a2.size ≤ 600) : Ev (fun k => voussoirref27_Wrap.f k a0 n a2) (copyR a0.data.toList n a2.data.toList) := by
  obtain ⟨r0, ⟨K0, e0⟩, p0⟩ := Id_ev a0 (by omega)
  obtain ⟨r2, ⟨K, e2⟩, p2⟩ := ref_ev a2.size a2 (Nat.le_refl _)
  obtain ⟨K1, e1⟩ : ∃ K1, 1 ≤ n ∧ n ≤ 99 → ∀ k, K1 ≤ k → voussoirref27_dec.f k n = some ⟨(decDigits n.toNat).toArray⟩ := by
    by_cases hi : 1 ≤ n ∧ n ≤ 99
    · obtain ⟨K, h⟩ := dec_ev' n (by omega) (by omega); exact ⟨K, fun _ => h⟩
    · exact ⟨0, fun h => absurd h hi⟩
  refine ⟨K + K0 + K1 + 2, fun k hk => ?_⟩
  obtain ⟨k, rfl⟩ : ∃ m, k = m + 1 := ⟨k - 1, by omega⟩
  have j0t : voussoirref27_Wrap.j0 (k + 1) a0 n a2 true = some ((⟨#[]⟩ : ByteArray), 2) := by
    simp only [voussoirref27_Wrap.j0]; rw [if_pos trivial]
  show voussoirref27_Wrap.f (k + 1) a0 n a2 = _
  have g0 : voussoirref27_Id.f (k + 1) a0 = some r0 := e0 (k + 1) (by omega)
  have g2 : voussoirref27_Parse.f k a2 = some r2 := e2 k (by omega)
  unfold voussoirref27_Wrap.f copyR
  rw [g0, Option.bind_some]
  rcases p0 with ⟨hr0, p0⟩ | ⟨hr0, p0⟩
  · rw [if_neg (by omega), if_pos p0]
    by_cases hn : 1 ≤ n ∧ n ≤ 99
    · rw [if_pos hn, if_neg (by omega), decide_eq_false (by omega : ¬ n > 99)]
      simp only [voussoirref27_Wrap.j0]
      rw [if_neg (by exact Bool.false_ne_true), g2, Option.bind_some]
      rcases p2.code with ⟨hc, hT⟩ | ⟨hc, hT⟩
      · have hd := decLen n (by omega)
        have z1 := sz_app a0 ⟨#[35]⟩
        have z2 := sz_app (a0 ++ (⟨#[35]⟩ : ByteArray)) (⟨(decDigits n.toNat).toArray⟩ : ByteArray)
        have z3 := sz_app ((a0 ++ (⟨#[35]⟩ : ByteArray)) ++ (⟨(decDigits n.toNat).toArray⟩ : ByteArray)) ⟨#[40]⟩
        have z4 := sz_app (((a0 ++ (⟨#[35]⟩ : ByteArray)) ++ (⟨(decDigits n.toNat).toArray⟩ : ByteArray)) ++ ⟨#[40]⟩) a2
        have z5 := size_mk (decDigits n.toNat)
        rw [sz1] at z1 z3
        rw [if_pos hc, if_pos hT, if_pos (by omega), e1 hn k (by omega), Option.bind_some, if_pos (by omega), if_pos (by omega), if_pos (by omega), if_pos (by omega), cat_copy, size_mk]
        rw [show (⟨(decDigits n.toNat).toArray⟩ : ByteArray).data.toList = decDigits n.toNat from rfl]
        by_cases hL : 200 < (a0.data.toList ++ 35 :: (decDigits n.toNat ++ 40 :: (a2.data.toList ++ [41]))).length
        · rw [if_pos (by omega), if_pos hL]
        · rw [if_neg (by omega), if_neg hL]
      · rw [if_neg (by omega), if_neg hT]
    · rw [if_neg hn]
      by_cases h : n < 1
      · rw [if_pos h]; exact j0t
      · rw [if_neg h, decide_eq_true (by omega : n > 99)]; exact j0t
  · rw [if_pos hr0, if_neg p0]

/-! ### the example of the chapter -/
theorem id_of (p : List UInt8) (n : Nat) (h1 : p.length ≤ 24) (h2 : ∃ c t, p = c :: t ∧ low c = true) (h3 : p.all alnum = true) (hn : 1 ≤ n) (hn2 : n < 10) : IdP (p ++ [46, UInt8.ofNat (48 + n)]) :=
  ⟨p, n, by rw [decDigits, dif_pos hn2], h1, h2, List.all_eq_true.1 h3, hn, by omega⟩
theorem idAnn : IdP [97, 110, 110, 46, 51] := id_of [97, 110, 110] 3 (by decide) ⟨97, [110, 110], rfl, by decide⟩ (by decide) (by decide) (by decide)
theorem idBob : IdP [98, 111, 98, 46, 55] := id_of [98, 111, 98] 7 (by decide) ⟨98, [111, 98], rfl, by decide⟩ (by decide) (by decide) (by decide)
theorem roleSide : RoleP [115, 105, 100, 101] := ⟨by decide, by decide, List.all_eq_true.1 (by decide)⟩
theorem dec2 : decDigits 2 = [50] := by rw [decDigits, dif_pos (by decide)]; rfl
theorem dec1 : decDigits 1 = [49] := by rw [decDigits, dif_pos (by decide)]; rfl

theorem alive_ev : Ev (fun k => voussoirlaw27_termAlive.f k) true := by
  obtain ⟨K1, e1⟩ := new_ev ⟨#[97, 110, 110, 46, 51]⟩ ⟨#[115, 105, 100, 101]⟩ 2 (by decide) (by decide)
  have n1 : newR (⟨#[97, 110, 110, 46, 51]⟩ : ByteArray).data.toList (⟨#[115, 105, 100, 101]⟩ : ByteArray).data.toList 2 = (⟨#[97, 110, 110, 46, 51, 58, 115, 105, 100, 101, 50]⟩, 0) := by
    unfold newR
    rw [if_pos ⟨idAnn, roleSide⟩, if_pos (by decide), show (2 : Int).toNat = 2 from rfl, dec2]; rfl
  rw [n1] at e1
  obtain ⟨K2, e2⟩ := copy_ev ⟨#[98, 111, 98, 46, 55]⟩ 1 ⟨#[97, 110, 110, 46, 51, 58, 115, 105, 100, 101, 50]⟩ (by decide) (by decide)
  have hT : Term (⟨#[97, 110, 110, 46, 51, 58, 115, 105, 100, 101, 50]⟩ : ByteArray).data.toList :=
    ⟨_, _, _, _, .plain (by decide) ⟨(by rw [dec2]; rfl : _ = [97, 110, 110, 46, 51] ++ 58 :: ([115, 105, 100, 101] ++ decDigits 2)), idAnn, roleSide, by decide⟩⟩
  have n2 : copyR (⟨#[98, 111, 98, 46, 55]⟩ : ByteArray).data.toList 1 (⟨#[97, 110, 110, 46, 51, 58, 115, 105, 100, 101, 50]⟩ : ByteArray).data.toList = (⟨#[98, 111, 98, 46, 55, 35, 49, 40, 97, 110, 110, 46, 51, 58, 115, 105, 100, 101, 50, 41]⟩, 0) := by
    unfold copyR
    rw [if_pos idBob, if_pos (by decide), if_pos hT, show (1 : Int).toNat = 1 from rfl, dec1, if_neg (by decide)]; rfl
  rw [n2] at e2
  refine ⟨K1 + K2, fun k hk => ?_⟩
  show voussoirlaw27_termAlive.f k = _
  have g1 : facename_New.f k ⟨#[97, 110, 110, 46, 51]⟩ ⟨#[115, 105, 100, 101]⟩ 2 = _ := e1 k (by omega)
  have g2 : facename_Copy.f k ⟨#[98, 111, 98, 46, 55]⟩ 1 ⟨#[97, 110, 110, 46, 51, 58, 115, 105, 100, 101, 50]⟩ = _ := e2 k (by omega)
  unfold voussoirlaw27_termAlive.f
  rw [g1, Option.bind_some, g2, Option.bind_some, if_pos (by exact toList_mk _), if_pos rfl, if_pos (by exact toList_mk _)]
  rfl

/-! ### the laws -/
theorem FacenameParses : voussoirlaw27_FacenameParses.Pure := by
  intro s _
  obtain ⟨K0, e0⟩ := alive_ev
  obtain ⟨r, ⟨K1, e1⟩, p1⟩ := parse_ev s.size s (Nat.le_refl _)
  obtain ⟨r', ⟨K2, e2⟩, p2⟩ := ref_ev s.size s (Nat.le_refl _)
  obtain rfl := p1.unique p2
  refine ⟨K0 + K1 + K2, ?_⟩
  have g0 : voussoirlaw27_termAlive.f (K0 + K1 + K2) = some true := e0 _ (by omega)
  have g1 : facename_Parse.f (K0 + K1 + K2) s = some r := e1 _ (by omega)
  have g2 : voussoirref27_Parse.f (K0 + K1 + K2) s = some r := e2 _ (by omega)
  unfold voussoirlaw27_FacenameParses.f
  rw [g0, Option.bind_some, if_pos rfl]
  by_cases h : (s.size : Int) > 400
  · rw [if_pos h]
  · rw [if_neg h, g1, Option.bind_some, g2, Option.bind_some, if_pos rfl, if_pos rfl, if_pos rfl, if_pos rfl, beq_self_eq_true]

theorem FacenameNews : voussoirlaw27_FacenameNews.Pure := by
  intro a0 a1 a2 i h0 h1 h2 _
  obtain ⟨K0, e0⟩ := alive_ev
  by_cases h : (wrap64 ((wrap64 ((a0.size : Int) + (a1.size : Int))) + (a2.size : Int))) > 600
  · refine ⟨K0, ?_⟩
    have g0 : voussoirlaw27_termAlive.f K0 = some true := e0 _ (by omega)
    unfold voussoirlaw27_FacenameNews.f
    rw [g0, Option.bind_some, if_pos rfl, if_pos h]
  · have h' := h
    rw [w64 (i := (a0.size : Int) + (a1.size : Int)) (by omega) (by omega), w64 (by omega) (by omega)] at h'
    obtain ⟨K1, e1⟩ := new_ev a0 a1 i (by omega) (by omega)
    obtain ⟨K2, e2⟩ := make_ev a0 a1 i (by omega) (by omega)
    obtain ⟨K3, e3⟩ := copy_ev a0 i a2 (by omega) (by omega)
    obtain ⟨K4, e4⟩ := wrap_ev a0 i a2 (by omega) (by omega)
    refine ⟨K0 + K1 + K2 + K3 + K4, ?_⟩
    have g0 : voussoirlaw27_termAlive.f (K0 + K1 + K2 + K3 + K4) = some true := e0 _ (by omega)
    have g1 : facename_New.f (K0 + K1 + K2 + K3 + K4) a0 a1 i = _ := e1 _ (by omega)
    have g2 : voussoirref27_Make.f (K0 + K1 + K2 + K3 + K4) a0 a1 i = _ := e2 _ (by omega)
    have g3 : facename_Copy.f (K0 + K1 + K2 + K3 + K4) a0 i a2 = _ := e3 _ (by omega)
    have g4 : voussoirref27_Wrap.f (K0 + K1 + K2 + K3 + K4) a0 i a2 = _ := e4 _ (by omega)
    unfold voussoirlaw27_FacenameNews.f
    rw [g0, Option.bind_some, if_pos rfl, if_neg h, g1, Option.bind_some, g2, Option.bind_some, g3, Option.bind_some, g4, Option.bind_some, if_pos rfl, if_pos rfl, if_pos rfl, beq_self_eq_true]

theorem FacenameRoundTrip : voussoirlaw27_FacenameRoundTrip.Pure := by
  intro a0 a1 a2 i h0 h1 h2 _
  obtain ⟨K0, e0⟩ := alive_ev
  by_cases h : (wrap64 ((wrap64 ((a0.size : Int) + (a1.size : Int))) + (a2.size : Int))) > 600
  · refine ⟨K0, ?_⟩
    have g0 : voussoirlaw27_termAlive.f K0 = some true := e0 _ (by omega)
    unfold voussoirlaw27_FacenameRoundTrip.f
    rw [g0, Option.bind_some, if_pos rfl, if_pos h]
  have h' := h
  rw [w64 (i := (a0.size : Int) + (a1.size : Int)) (by omega) (by omega), w64 (by omega) (by omega)] at h'
  -- the third part: Parse, and back
  have part3 : ∃ K, ∀ k, K ≤ k → voussoirlaw27_FacenameRoundTrip.j1 k a2 = some true := by
    obtain ⟨r, ⟨K1, e1⟩, p1⟩ := parse_ev a2.size a2 (Nat.le_refl _)
    rcases p1 with ⟨a, b, n, c, hP, rfl⟩ | ⟨hT, rfl⟩
    · have hle := hP.length
      have ha : (⟨a.toArray⟩ : ByteArray).size ≤ 600 ∧ (⟨b.toArray⟩ : ByteArray).size ≤ 600 ∧ (⟨c.toArray⟩ : ByteArray).size ≤ 600 := by
        rw [size_mk, size_mk, size_mk]
        cases hP with
        | plain _ hp => have := congrArg List.length hp.eq; simp at this; simp; omega
        | copy _ hp _ => have := congrArg List.length hp.eq; simp at this; simp; omega
      obtain ⟨K2, e2⟩ := new_ev ⟨a.toArray⟩ ⟨b.toArray⟩ n ha.1 ha.2.1
      obtain ⟨K3, e3⟩ := copy_ev ⟨a.toArray⟩ n ⟨c.toArray⟩ ha.1 ha.2.2
      refine ⟨K1 + K2 + K3 + 1, fun k hk => ?_⟩
      obtain ⟨k, rfl⟩ : ∃ m, k = m + 1 := ⟨k - 1, by omega⟩
      have g1 : facename_Parse.f k a2 = _ := e1 k (by omega)
      have g2 : facename_New.f k ⟨a.toArray⟩ ⟨b.toArray⟩ n = _ := e2 k (by omega)
      have g3 : facename_Copy.f k ⟨a.toArray⟩ n ⟨c.toArray⟩ = _ := e3 k (by omega)
      simp only [voussoirlaw27_FacenameRoundTrip.j1]
      rw [g1, Option.bind_some, if_pos rfl, g2, Option.bind_some, toList_mk]
      cases hP with
      | plain hl hp =>
        have e : newR a b n = (⟨a2.data.toList.toArray⟩, 0) := by
          unfold newR
          rw [if_pos ⟨hp.id, hp.role⟩, if_pos (by have := hp.le; omega), Int.toNat_natCast, ← hp.eq]
        rw [if_pos rfl]
        show (if (newR a b n).2 = 0 then some ((newR a b n).1.toList == a2.toList) else some false) = _
        rw [e, if_pos rfl]; simp [toList_data]
      | copy hl hp hof =>
        have e : copyR a n c = (⟨a2.data.toList.toArray⟩, 0) := by
          unfold copyR
          rw [if_pos hp.id, if_pos (by have := hp.le; have := hp.ge; omega), if_pos ⟨_, _, _, _, hof⟩, Int.toNat_natCast, ← hp.eq, if_neg (by omega)]
        rw [if_neg hof.ne, g3, Option.bind_some]
        show (if (copyR a n c).2 = 0 then some ((copyR a n c).1.toList == a2.toList) else some false) = _
        rw [e, if_pos rfl]; simp [toList_data]
    · refine ⟨K1 + 1, fun k hk => ?_⟩
      obtain ⟨k, rfl⟩ : ∃ m, k = m + 1 := ⟨k - 1, by omega⟩
      have g1 : facename_Parse.f k a2 = some bad := e1 k (by omega)
      simp only [voussoirlaw27_FacenameRoundTrip.j1]
      rw [g1, Option.bind_some, if_neg (by decide), if_pos (by exact toList_mk []), if_pos (by exact toList_mk []), if_pos (by rfl)]
      show some ((⟨([] : List UInt8).toArray⟩ : ByteArray).toList == []) = _
      rw [toList_mk]; rfl
  obtain ⟨K3, e3⟩ := part3
  -- the second part: Copy, and back
  have part2 : ∃ K, ∀ k, K ≤ k → voussoirlaw27_FacenameRoundTrip.j0 k a0 a2 i = some true := by
    obtain ⟨K4, e4⟩ := copy_ev a0 i a2 (by omega) (by omega)
    generalize hcr : copyR a0.data.toList i a2.data.toList = cr at e4
    by_cases hc : cr.2 = 0
    · have hgood : ∃ r, r = (a0, (⟨#[]⟩ : ByteArray), i, a2, (0 : Int)) ∧ Ev (fun k => facename_Parse.f k cr.1) r := by
        obtain ⟨r, er, pr⟩ := parse_ev cr.1.size cr.1 (Nat.le_refl _)
        refine ⟨r, ?_, er⟩
        rw [← hcr] at hc pr
        unfold copyR at hc pr
        split at hc
        · next hid =>
          rw [if_pos hid] at pr
          split at hc
          · next hn =>
            rw [if_pos hn] at pr
            split at hc
            · next hT =>
              rw [if_pos hT] at pr
              split at hc
              · cases hc
              · next hL =>
                rw [if_neg hL] at pr
                obtain ⟨x, y, m, z, hz⟩ := hT
                have hP : Parsed (a0.data.toList ++ 35 :: (decDigits i.toNat ++ 40 :: (a2.data.toList ++ [41]))) a0.data.toList [] i.toNat a2.data.toList :=
                  .copy (by omega) ⟨rfl, hid, by omega, by omega⟩ hz
                have := pr.unique (.inl ⟨_, _, _, _, hP, rfl⟩)
                rw [this]
                have e1 : ((i.toNat : Nat) : Int) = i := by omega
                rw [e1]
            · cases hc
          · cases hc
        · cases hc
      obtain ⟨r, rfl, K5, e5⟩ := hgood
      refine ⟨K3 + K4 + K5 + 1, fun k hk => ?_⟩
      obtain ⟨k, rfl⟩ : ∃ m, k = m + 1 := ⟨k - 1, by omega⟩
      have g4 : facename_Copy.f k a0 i a2 = some cr := e4 k (by omega)
      have g5 : facename_Parse.f k cr.1 = _ := e5 k (by omega)
      simp only [voussoirlaw27_FacenameRoundTrip.j0]
      rw [g4, Option.bind_some, if_pos hc, g5, Option.bind_some, if_pos rfl, if_pos rfl, if_pos (by exact toList_mk []), if_pos rfl, if_pos rfl]
      exact e3 k (by omega)
    · refine ⟨K3 + K4 + 1, fun k hk => ?_⟩
      obtain ⟨k, rfl⟩ : ∃ m, k = m + 1 := ⟨k - 1, by omega⟩
      have g4 : facename_Copy.f k a0 i a2 = some cr := e4 k (by omega)
      simp only [voussoirlaw27_FacenameRoundTrip.j0]
      rw [g4, Option.bind_some, if_neg hc]
      exact e3 k (by omega)
  obtain ⟨K2, e2⟩ := part2
  -- the first part: New, and back
  obtain ⟨K1, e1⟩ := new_ev a0 a1 i (by omega) (by omega)
  generalize hcr : newR a0.data.toList a1.data.toList i = cr at e1
  by_cases hc : cr.2 = 0
  · have hgood : ∃ r, r = (a0, a1, i, (⟨#[]⟩ : ByteArray), (0 : Int)) ∧ Ev (fun k => facename_Parse.f k cr.1) r := by
      obtain ⟨r, er, pr⟩ := parse_ev cr.1.size cr.1 (Nat.le_refl _)
      refine ⟨r, ?_, er⟩
      rw [← hcr] at hc pr
      unfold newR at hc pr
      split at hc
      · next hid =>
        rw [if_pos hid] at pr
        split at hc
        · next hn =>
          rw [if_pos hn] at pr
          have hlen : (a0.data.toList ++ 58 :: (a1.data.toList ++ decDigits i.toNat)).length ≤ 200 := by
            have l1 := hid.1.length
            have l2 := hid.2.le
            have l3 := decLen i hn.2
            simp only [List.length_append, List.length_cons]
            omega
          have hP : Parsed (a0.data.toList ++ 58 :: (a1.data.toList ++ decDigits i.toNat)) a0.data.toList a1.data.toList i.toNat [] :=
            .plain hlen ⟨rfl, hid.1, hid.2, by omega⟩
          have := pr.unique (.inl ⟨_, _, _, _, hP, rfl⟩)
          rw [this]
          have e1 : ((i.toNat : Nat) : Int) = i := by omega
          rw [e1]
        · cases hc
      · cases hc
    obtain ⟨r, rfl, K5, e5⟩ := hgood
    refine ⟨K0 + K1 + K2 + K5, ?_⟩
    have g0 : voussoirlaw27_termAlive.f (K0 + K1 + K2 + K5) = some true := e0 _ (by omega)
    have g1 : facename_New.f (K0 + K1 + K2 + K5) a0 a1 i = some cr := e1 _ (by omega)
    have g5 : facename_Parse.f (K0 + K1 + K2 + K5) cr.1 = _ := e5 _ (by omega)
    unfold voussoirlaw27_FacenameRoundTrip.f
    rw [g0, Option.bind_some, if_pos rfl, if_neg h, g1, Option.bind_some, if_pos hc, g5, Option.bind_some, if_pos rfl, if_pos rfl, if_pos rfl, if_pos rfl, if_pos (by exact toList_mk [])]
    exact e2 _ (by omega)
  · refine ⟨K0 + K1 + K2, ?_⟩
    have g0 : voussoirlaw27_termAlive.f (K0 + K1 + K2) = some true := e0 _ (by omega)
    have g1 : facename_New.f (K0 + K1 + K2) a0 a1 i = some cr := e1 _ (by omega)
    unfold voussoirlaw27_FacenameRoundTrip.f
    rw [g0, Option.bind_some, if_pos rfl, if_neg h, g1, Option.bind_some, if_neg hc]
    exact e2 _ (by omega)

end Go.Proofs.YtkkndcfflmealaaDoor.P27
