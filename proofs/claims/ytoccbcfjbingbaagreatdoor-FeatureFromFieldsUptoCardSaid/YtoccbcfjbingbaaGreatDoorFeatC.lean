/- The kinds' table of feature: its rows as the walks read them; the kind of a name; a feature as a record of its texts. No walk in sight. -/
import Derived.Test.YtoccbcfjbingbaaGreatDoorLibS
import Derived.Test.YtoccbcfjbingbaaGreatDoorX30x0
import Derived.WalkSpells
import Derived.Lib.Hide
import Derived.Deep.RegionWith
import Derived.RegionTactic
import Derived.Outline
namespace Go.Proofs.YtoccbcfjbingbaaGreatDoor.X30
open Go Go.RowKit Go.Proofs.YtoccbcfjbingbaaGreatDoorW.PrintWords
def kAt (n : Nat) : ByteArray × List ByteArray := kindTab.getD n (⟨#[]⟩, [])
theorem kinds_at {w : World} {A : Option Addr} (h : Kd.C kKind w A kindTab.length kindTab) (n : Nat) (h1 : n < 8) :
 ∃ ad A1 c1, A = some ad ∧ w.cell? (ad.add (n * 2)) = some (.string (kAt n).1) ∧ w.cell? ⟨(ad.add (n * 2)).block, (ad.add (n * 2)).off + 1, none⟩ = some (.slice A1 (kAt n).2.length c1) ∧ (kAt n).2.length ≤ c1 ∧ Kd.C Kd.string w A1 (kAt n).2.length (kAt n).2 := by
 obtain ⟨ad, c, e, _, hK, hc0⟩ := Kd.C_get h (⟨#[]⟩, []) n (by omega) (by show (n : Int) < (8 : Nat); omega)
 rw [Int.toNat_natCast] at hK hc0
 have hc : ∀ j u, c[j]? = some u → w.cell? (ad.add (n * 2 + j)) = some u := hc0
 obtain ⟨c0, c1, rfl, h0, h2⟩ := hK
 have h0 : c0 = [.string (kAt n).1] := h0
 obtain ⟨A1, k1, rfl, hl, hC⟩ := h2
 subst h0
 exact ⟨ad, A1, k1, e, hc 0 _ rfl, by rw [← add_field _ _ 1 (by omega)]; exact hc 1 _ rfl, hl, hC⟩
def kindNo (s : ByteArray) : Int × Bool := match kindTab.findIdx? (fun x => x.1.toList == s.toList) with | some i => ((i : Int) + 1, true) | none => (0, false)
def noKind (s : ByteArray) (n : Nat) : Prop := ∀ j, j < n → ((kAt j).1.toList == s.toList) = false
theorem kAt_eq (j : Nat) (h : j < kindTab.length) : kAt j = kindTab[j] := by unfold kAt; rw [List.getD_eq_getElem?_getD, List.getElem?_eq_getElem h]; rfl
theorem kindNo_hit {s : ByteArray} {n : Nat} (h : noKind s n) (hn : n < 8) (he : ((kAt n).1.toList == s.toList) = true) : kindNo s = ((n : Int) + 1, true) := by
 unfold kindNo
 have : kindTab.findIdx? (fun x => x.1.toList == s.toList) = some n := by
  rw [List.findIdx?_eq_some_iff_getElem]
  refine ⟨hn, by rw [← kAt_eq n hn]; exact he, fun j hj => ?_⟩
  have := h j hj
  rw [kAt_eq j (Nat.lt_trans hj hn)] at this
  rw [this]; exact Bool.false_ne_true
 rw [this]
theorem kindNo_miss {s : ByteArray} (h : noKind s 8) : kindNo s = (0, false) := by
 unfold kindNo
 have : kindTab.findIdx? (fun x => x.1.toList == s.toList) = none := by
  rw [List.findIdx?_eq_none_iff]
  intro x hx
  obtain ⟨j, hj, rfl⟩ := List.getElem_of_mem hx
  have := h j hj
  rw [kAt_eq j hj] at this
  exact this
 rw [this]
structure FT where
 id : ByteArray
 kind : Int
 onT : ByteArray
 onA : List ByteArray
 andT : ByteArray
 andA : List ByteArray
 sketch : ByteArray
 amount : ByteArray
 count : ByteArray
 x : ByteArray
 y : ByteArray
 z : ByteArray
def FT.zero : FT := ⟨⟨#[]⟩, 0, ⟨#[]⟩, [], ⟨#[]⟩, [], ⟨#[]⟩, ⟨#[]⟩, ⟨#[]⟩, ⟨#[]⟩, ⟨#[]⟩, ⟨#[]⟩⟩
inductive Fd where | on | and | sketch | amount | count | x | y | z
def Fd.str : Fd → ByteArray
 | .on => sOn | .and => sAnd | .sketch => sSketch | .amount => sAmount | .count => sCount | .x => sX | .y => sY | .z => sZ
def allFd : List Fd := [.on, .and, .sketch, .amount, .count, .x, .y, .z]
def kindFd (n : Nat) : List Fd := ([[.on, .sketch, .amount], [.on, .sketch, .amount], [.on, .and, .amount], [.on], [.count, .x, .y, .z], [.x, .y, .z], [.sketch, .count], [.on, .sketch]] : List (List Fd)).getD n []
theorem kindFd_str : ∀ n, n < 8 → (kAt n).2 = (kindFd n).map Fd.str := by
 intro n hn
 match n, hn with
 | 0, _ => rfl | 1, _ => rfl | 2, _ => rfl | 3, _ => rfl | 4, _ => rfl | 5, _ => rfl | 6, _ => rfl | 7, _ => rfl
def Fd.isRef : Fd → Bool | .on => true | .and => true | _ => false
def FT.plain (F : FT) : Fd → ByteArray
 | .sketch => F.sketch | .amount => F.amount | .count => F.count | .x => F.x | .y => F.y | .z => F.z | _ => ⟨#[]⟩
def FT.refT (F : FT) : Fd → ByteArray | .on => F.onT | _ => F.andT
def FT.refA (F : FT) : Fd → List ByteArray | .on => F.onA | _ => F.andA
def FT.setPlain (F : FT) : Fd → ByteArray → FT
 | .sketch, s => { F with sketch := s } | .amount, s => { F with amount := s } | .count, s => { F with count := s } | .x, s => { F with x := s } | .y, s => { F with y := s } | .z, s => { F with z := s } | _, _ => F
def FT.setRef (F : FT) : Fd → ByteArray → List ByteArray → FT
 | .on, t, l => { F with onT := t, onA := l } | _, t, l => { F with andT := t, andA := l }
def Fd.off : Fd → Nat | .on => 2 | .and => 4 | .sketch => 6 | .amount => 7 | .count => 8 | .x => 9 | .y => 10 | .z => 11
def slotV (P : Nat) (f : Fd) : Value := if f.isRef then .agg #[.pointer (some ⟨P, f.off, none⟩), .pointer none] else .agg #[.pointer none, .pointer (some ⟨P, f.off, none⟩)]
def featCells (F : FT) (v3 v5 : Value) : Array Value := #[.string F.id, .int .i64 F.kind, .string F.onT, v3, .string F.andT, v5, .string F.sketch, .string F.amount, .string F.count, .string F.x, .string F.y, .string F.z]
end Go.Proofs.YtoccbcfjbingbaaGreatDoor.X30
namespace Go.Proofs.YtoccbcfjbingbaaGreatDoor.X30
open Go Go.RowKit Go.Shelf Go.Proofs.YtoccbcfjbingbaaGreatDoorW.PrintWords Go.Proofs.YtoccbcfjbingbaaGreatDoorW.PrintLast Go.Proofs.YtoccbcfjbingbaaGreatDoorW.PrintMore
set_option maxHeartbeats 1600000 in
theorem KindByName_any (a0 : ByteArray) (r1 : Int) (r2 : Bool) (w : World) (h : kindNo a0 = (r1, r2)) (hG : Env w) :
 Calls Tryz.prog 13 #[.string a0] w fun e w' => e = .returned (.tuple #[.int .i64 r1, .bool r2]) ∧ Below w.heap.size w w' := by
 obtain ⟨A, c, hcell, hc, hC⟩ := hG.kinds
 have hk8 : kindTab.length = 8 := rfl
 rw [hk8] at hcell hc
 have HK := Aside0.mk hC
 have HH := Aside0.mk h
 clear h hC hk8 hG
 go_enter Tryz.func13, Tryz.ntmps13
 go_wp2_with fail
 go_loopw [8] (fun i wr => ∃ n : Nat, i = .int .i64 n ∧ n ≤ 8 ∧ Aside0 (noKind a0 n) ∧ Aside0 (Below w.heap.size w wr)) (fun i _ => 8 - (intOf i).toNat)
 case atStart => exact ⟨0, rfl, by omega, ⟨fun j hj => absurd hj (Nat.not_lt_zero j)⟩, ⟨Below.refl _ _⟩⟩
 case round =>
  obtain ⟨n, rfl, hn, hno, hbel⟩ := hrel
  by_cases hlt : n < 8
  · obtain ⟨ad, A1, c1, rfl, x0, x1, hc1, hC1⟩ := kinds_at (Kd.C_below HK.out hbel.out) n hlt
    have hx0 := x0
    have hx1 := x1
    clear hcell hc hC1 x0 x1
    cases hb : ((kAt n).1.toList == a0.toList) with
    | true =>
     have hr := kindNo_hit hno.out hlt hb
     rw [HH.out] at hr
     simp only [Prod.mk.injEq] at hr
     obtain ⟨rfl, rfl⟩ := hr
     clear HH hno HK
     go_wp2_with fail
     go_ret2
     exact ⟨rfl, below_alloc hbel.out _⟩
    | false =>
     have hno1 : Aside0 (noKind a0 (n + 1)) := ⟨fun j hj => by
      rcases Nat.lt_or_ge j n with h | h
      · exact hno.out j h
      · obtain rfl : j = n := by omega
        exact hb⟩
     clear hno HK
     go_wp2_with fail
     go_roundw
     case rel => exact ⟨n + 1, by go_num, by omega, hno1, ⟨below_alloc hbel.out _⟩⟩
     case measure => simp [intOf]; omega
  · obtain rfl : n = 8 := by omega
    have hr := kindNo_miss hno.out
    rw [HH.out] at hr
    simp only [Prod.mk.injEq] at hr
    obtain ⟨rfl, rfl⟩ := hr
    clear HH hno hcell hc HK
    go_wp2_with fail
    go_ret2
    exact ⟨rfl, hbel.out⟩
set_option maxHeartbeats 1600000 in
theorem fields_yes (n : Nat) (hn : n < 8) (w0 w : World) (hG : Env w0) (hb : Below w0.heap.size w0 w) :
 Calls Tryz.prog 22 #[.int .i64 ((n : Int) + 1)] w fun e w' => ∃ A c, e = .returned (.tuple #[.slice A (kAt n).2.length c, .bool true]) ∧ (kAt n).2.length ≤ c ∧ Kd.C Kd.string w0 A (kAt n).2.length (kAt n).2 ∧ w' = w := by
 obtain ⟨A, c, hcell, hc, hC⟩ := hG.kinds
 have hk8 : kindTab.length = 8 := rfl
 rw [hk8] at hcell hc
 obtain ⟨ad, A1, c1, rfl, x0, x1, hc1, hC1⟩ := kinds_at hC n hn
 replace hcell := (hb.cell (p := ⟨0, 0, none⟩) (World.block_lt_of_cell? _ _ hcell)).trans hcell
 replace x1 := (hb.cell (World.block_lt_of_cell? _ _ x1)).trans x1
 have HC1 := Aside0.mk hC1
 have HC := Aside0.mk hc1
 clear hC1 hC hc1 hk8 x0 hG hb
 go_enter Tryz.func22, Tryz.ntmps22
 go_wp2_with fail
 go_ret2
 exact ⟨_, _, rfl, HC.out, HC1.out, rfl⟩
theorem fields_no (k : Int) (hk : ¬ (1 ≤ k ∧ k ≤ 8)) (w : World) (hG : Env w) :
 Calls Tryz.prog 22 #[.int .i64 k] w fun e w' => e = .returned (.tuple #[.slice none 0 0, .bool false]) ∧ w' = w := by
 obtain ⟨A, c, hcell, hc, hC⟩ := hG.kinds
 have hk8 : kindTab.length = 8 := rfl
 rw [hk8] at hcell hc
 clear hG hC hk8 hc
 by_cases h1 : k < 1
 · clear hk
   go_enter Tryz.func22, Tryz.ntmps22
   go_wp2_with fail
   go_ret2
   exact ⟨rfl, rfl⟩
 · have h8 : 8 < k := by omega
   clear hk
   go_enter Tryz.func22, Tryz.ntmps22
   go_wp2_with fail
   go_ret2
   exact ⟨rfl, rfl⟩
theorem places_any (p : Addr) (w : World) :
 Calls Tryz.prog 23 #[.pointer (some p)] w fun e w' => e = .returned (.func (.func 39) #[] #[.pointer (some ⟨w.heap.size, 0, none⟩)]) ∧ w' = w.alloc (.cells #[.pointer (some p)] 53) := by
 have hmf : ∀ (fn : Fn) (first cap : Array Value) (w : World), (Instr.makeFunc fn first cap).run Tryz.prog w = .ok (.func fn first cap) w := fun _ _ _ _ => rfl
 go_enter Tryz.func23, Tryz.ntmps23
 go_wp2_with fail
 go_ret
 exact ⟨rfl, rfl⟩
end Go.Proofs.YtoccbcfjbingbaaGreatDoor.X30
