/- resolve.Resolve's score of a face (the closure 'common'). -/
import Derived.Test.YtkceipkedmfeiaaGreatDoorLK
import Derived.Test.YtkceipkedmfeiaaGreatDoorX30x2
import Derived.Test.YtkceipkedmfeiaaGreatDoorX30x1
namespace Go.Proofs.YtkceipkedmfeiaaGreatDoor.XL
open Go Go.RowKit Go.Shelf Go.Proofs.YtkceipkedmfeiaaGreatDoorW.PrintWords Go.Proofs.YtkceipkedmfeiaaGreatDoorW.PrintLast Go.Proofs.YtkceipkedmfeiaaGreatDoorW.PrintMore Go.Proofs.YtkceipkedmfeiaaGreatDoor.X30

abbrev FC := S43
def plEq (p q : PL) : Bool := (p.f0.f0 == q.f0.f0 && (p.f0.f1.toList == q.f0.f1.toList)) && ((p.f1.f0 == q.f1.f0 && (p.f1.f1.toList == q.f1.f1.toList)) && ((p.f2.f0 == q.f2.f0 && (p.f2.f1.toList == q.f2.f1.toList)) && (p.f3.f0 == q.f3.f0 && (p.f3.f1.toList == q.f3.f1.toList))))
def hasPl (l : List PL) (q : PL) : Bool := l.any fun x => plEq q x
theorem index_run (l : List PL) (q : PL) (hl : l.length < 9223372036854775808) : ∀ (m i : Nat), i + m = l.length → ∀ k, m < k →
    ∃ r : Int, api_Plane_55.l0 k l (l.length : Int) (i : Int) q.f0.f0 q.f0.f1 q.f1.f0 q.f1.f1 q.f2.f0 q.f2.f1 q.f3.f0 q.f3.f1 = some r ∧ (decide (r ≥ 0) = hasPl (l.drop i) q) := by
  intro m
  induction m with
  | zero =>
    intro i hi k hk
    obtain ⟨k, rfl⟩ : ∃ n, k = n + 1 := ⟨k - 1, by omega⟩
    refine ⟨-1, by simp only [api_Plane_55.l0]; rw [if_neg (by omega)], ?_⟩
    rw [List.drop_eq_nil_of_le (by omega)]
    rfl
  | succ m ih =>
    intro i hi k hk
    obtain ⟨k, rfl⟩ : ∃ n, k = n + 1 := ⟨k - 1, by omega⟩
    obtain ⟨r, hr, hr2⟩ := ih (i + 1) (by omega) k (by omega)
    have hlt : i < l.length := by omega
    have hx : rd_T33 l (i : Int) = l[i] := by
      unfold rd_T33
      rw [Int.toNat_natCast, List.getD_eq_getElem?_getD, List.getElem?_eq_getElem hlt]
      rfl
    simp only [api_Plane_55.l0]
    rw [if_pos (by omega), if_pos (by omega), if_pos (by omega), hx, show wrap64 ((i : Int) + 1) = ((i + 1 : Nat) : Int) by unfold wrap64; omega]
    rw [List.drop_eq_getElem_cons hlt]
    by_cases hq : plEq q l[i] = true
    · refine ⟨i, if_pos hq, ?_⟩
      rw [hasPl, List.any_cons, hq, Bool.true_or]
      exact decide_eq_true (by omega)
    · refine ⟨r, (if_neg hq).trans hr, ?_⟩
      rw [hr2, hasPl, hasPl, List.any_cons, Bool.eq_false_iff.2 hq, Bool.false_or]
theorem contains_run (l : List PL) (q : PL) (hl : l.length < 9223372036854775808) : api_Plane_30.f (l.length + 1) l q.f0.f0 q.f0.f1 q.f1.f0 q.f1.f1 q.f2.f0 q.f2.f1 q.f3.f0 q.f3.f1 = some (hasPl l q) := by
  obtain ⟨r, hr, hr2⟩ := index_run l q hl l.length 0 (by omega) (l.length + 1) (by omega)
  unfold api_Plane_30.f api_Plane_55.f
  rw [show ((0 : Nat) : Int) = 0 from rfl] at hr
  rw [hr, Option.bind_some, hr2, List.drop_zero]

/-- Is a face next to the plane of a term? -/
def near (t : List NP) (x : FC) (s : ByteArray) : Bool := (lookR s t).2 && hasPl x.f2 (lookR s t).1
def score (t : List NP) (adj : List ByteArray) (x : FC) : Nat := (adj.filter (near t x)).length
theorem score_le (t : List NP) (adj : List ByteArray) (x : FC) : score t adj x ≤ adj.length := List.length_filter_le _ _
theorem score_snoc (t : List NP) (adj : List ByteArray) (x : FC) (n : Nat) (h : n < adj.length) : score t (adj.take (n + 1)) x = score t (adj.take n) x + if near t x adj[n] = true then 1 else 0 := by
  unfold score
  rw [List.take_succ_eq_append_getElem h, List.filter_append, List.length_append]
  congr 1
  by_cases hh : near t x adj[n] = true
  · rw [if_pos hh, List.filter_cons_of_pos hh]; rfl
  · rw [if_neg hh, List.filter_cons_of_neg hh]; rfl
def fcCells (x : FC) (u v : Value) : Array Value := #[.bool x.f0.f0.f0, .string x.f0.f0.f1, .bool x.f0.f1.f0, .string x.f0.f1.f1, .bool x.f0.f2.f0, .string x.f0.f2.f1, .bool x.f0.f3.f0, .string x.f0.f3.f1, u, v]

set_option maxHeartbeats 3200000 in
theorem Common_any (x : FC) (u : Value) (A9 : Option Addr) (c9 : Nat) (adj : List ByteArray) (A : Option Addr) (c : Nat) (t : List NP) (A1 : Option Addr) (c1 : Nat) (b5 b4 : Nat) (W : World)
    (h5 : W.cell? ⟨b5, 1, none⟩ = some (.slice A adj.length c)) (h4 : W.cell? ⟨b4, 0, none⟩ = some (.slice A1 t.length c1)) (hr : Kd.C Kd.string W A adj.length adj) (ht : Kd.C k50 W A1 t.length t)
    (h9 : Kd.C k33 W A9 x.f2.length x.f2) (l9 : x.f2.length ≤ c9) (la : adj.length < 9223372036854775808) (lt : t.length < 9223372036854775808) (lx : x.f2.length < 9223372036854775808) :
    Calls Tryz.prog 29 #[.agg (fcCells x u (.slice A9 x.f2.length c9)), .pointer (some ⟨b5, 0, none⟩), .pointer (some ⟨b4, 0, none⟩)] W fun e w' => e = .returned (.int .i64 (score t adj x : Nat)) ∧ Below W.heap.size W w' := by
  have R := Aside0.mk hr
  have HT := Aside0.mk ht
  have H9 := Aside0.mk h9
  have H5 := Aside0.mk h5
  have H4 := Aside0.mk h4
  have HB0 := Aside0.mk (below_alloc (Below.refl W.heap.size W) (.cells (fcCells x u (.slice A9 x.f2.length c9)) 43))
  have K0 := Aside0.mk (blk_new W (.cells (fcCells x u (.slice A9 x.f2.length c9)) 43))
  have h5a := (HB0.out.cell (p := ⟨b5, 1, none⟩) (World.block_lt_of_cell? _ _ h5)).trans h5
  clear hr ht h9 h5 h4
  unfold fcCells at h5a ⊢
  go_enter Tryz.func29, Tryz.ntmps29
  go_wp2_with fail
  go_loopw [5, 13] (fun v i wr => ∃ n : Nat, i = .int .i64 n ∧ n ≤ adj.length ∧ v = .int .i64 (score t (adj.take n) x : Nat) ∧ Aside0 (wr.heap[W.heap.size]? = some (.cells #[.bool x.f0.f0.f0, .string x.f0.f0.f1, .bool x.f0.f1.f0, .string x.f0.f1.f1, .bool x.f0.f2.f0, .string x.f0.f2.f1, .bool x.f0.f3.f0, .string x.f0.f3.f1, u, .slice A9 x.f2.length c9] 43 (0, 0))) ∧ Aside0 (Below W.heap.size W wr)) (fun _ i _ => adj.length - (RowKit.intOf i).toNat)
  case atStart => exact ⟨0, rfl, Nat.zero_le _, rfl, K0, HB0⟩
  case round =>
    obtain ⟨n, rfl, hn, rfl, K, HB⟩ := hrel
    clear K0 HB0 h5a
    have hle := score_le t (adj.take n) x
    have hle2 : (adj.take n).length ≤ n := List.length_take_le _ _
    by_cases hlt : n < adj.length
    · obtain ⟨b, o, rfl, -, hcell⟩ := C_string_cells R.out (by omega)
      have hx0 := hcell n adj[n] (List.getElem?_eq_getElem hlt)
      have hx := (HB.out.cell (World.block_lt_of_cell? _ _ hx0)).trans hx0
      have h4a := (HB.out.cell (p := ⟨b4, 0, none⟩) (World.block_lt_of_cell? _ _ H4.out)).trans H4.out
      have hsn := score_snoc t adj x n hlt
      obtain ⟨q, ok, hq⟩ : ∃ q ok, lookR adj[n] t = (q, ok) := ⟨_, _, rfl⟩
      have hnear : near t x adj[n] = (ok && hasPl x.f2 q) := by unfold near; rw [hq]
      rw [hnear] at hsn
      have HL := fun w0 (h : Kd.C k50 w0 A1 t.length t) => Lookup_any adj[n] A1 c1 t w0 h lt
      rw [hq] at HL
      have HSN := Aside0.mk hsn
      have HLK := Aside0.mk HL
      clear hx0 hcell hsn hnear hq HL
      go_wp2_with fail
      refine (HLK.out _ (Kd.C_below HT.out HB.out)).mono ?_
      rintro e1 w1 ⟨rfl, hb1⟩
      have HB1 := Aside0.mk (below_alloc (below_step HB.out hb1) (.cells (plCells q) 33))
      have K1 := Aside0.mk (blk_alloc (blk_below K.out hb1) (.cells (plCells q) 33))
      have N1 := Aside0.mk (blk_new w1 (.cells (plCells q) 33))
      clear hb1 HB K hx h4a HLK
      unfold plCells at HB1 K1 N1 ⊢
      have y9 : _ = some (Value.slice A9 x.f2.length c9) := blk_cell K1.out 9
      have z0 : _ = some (Value.bool q.f0.f0) := blk_cell N1.out 0
      have z1 : _ = some (Value.string q.f0.f1) := blk_cell N1.out 1
      have z2 : _ = some (Value.bool q.f1.f0) := blk_cell N1.out 2
      have z3 : _ = some (Value.string q.f1.f1) := blk_cell N1.out 3
      have z4 : _ = some (Value.bool q.f2.f0) := blk_cell N1.out 4
      have z5 : _ = some (Value.string q.f2.f1) := blk_cell N1.out 5
      have z6 : _ = some (Value.bool q.f3.f0) := blk_cell N1.out 6
      have z7 : _ = some (Value.string q.f3.f1) := blk_cell N1.out 7
      cases ok with
      | true =>
        go_wp2_with fail
        refine (api_Plane_30.calls (x.f2.length + 1) A9 c9 x.f2 q.f0.f0 q.f0.f1 q.f1.f0 q.f1.f1 q.f2.f0 q.f2.f1 q.f3.f0 q.f3.f1 (hasPl x.f2 q) _ (Kd.C_below H9.out HB1.out) l9 (contains_run x.f2 q lx)).mono ?_
        rintro e2 w2 ⟨rfl, hb2⟩
        have HB2 := Aside0.mk (below_step HB1.out hb2)
        have K2 := Aside0.mk (blk_below K1.out hb2)
        clear hb2 HB1 K1 N1 y9 z0 z1 z2 z3 z4 z5 z6 z7
        cases hh : hasPl x.f2 q with
        | true =>
          have HV := Aside0.mk (show score t (adj.take (n + 1)) x = score t (adj.take n) x + 1 from by have := HSN.out; rw [hh] at this; simpa using this)
          clear hh HSN
          go_wp2_with fail
          go_roundw
          case rel => exact ⟨n + 1, by go_num, hlt, by rw [HV.out]; go_num, K2, HB2⟩
          case measure => simp [RowKit.intOf]; omega
        | false =>
          have HV := Aside0.mk (show score t (adj.take (n + 1)) x = score t (adj.take n) x from by have := HSN.out; rw [hh] at this; simpa using this)
          clear hh HSN
          go_wp2_with fail
          go_roundw
          case rel => exact ⟨n + 1, by go_num, hlt, by rw [HV.out], K2, HB2⟩
          case measure => simp [RowKit.intOf]; omega
      | false =>
        have HV := Aside0.mk (show score t (adj.take (n + 1)) x = score t (adj.take n) x from by have := HSN.out; simpa using this)
        clear HSN
        go_wp2_with fail
        go_roundw
        case rel => exact ⟨n + 1, by go_num, hlt, by rw [HV.out], K1, HB1⟩
        case measure => simp [RowKit.intOf]; omega
    · have hf : adj.take n = adj := List.take_of_length_le (by omega)
      rw [hf]
      clear hf hle hle2
      go_wp2_with fail
      go_ret
      exact ⟨rfl, HB.out⟩
end Go.Proofs.YtkceipkedmfeiaaGreatDoor.XL
