/- A set of strings kept as a map[string]bool that the call makes: what a look-up, a store and len say. -/
import Derived.Test.YtoccbcfjbingbaaGreatDoorFeatE2
import Derived.Maps.OwnSet
import Derived.Maps.OwnOps
import Derived.StringKeys
import Derived.Test.YtoccbcfjbingbaaGreatDoorX30x3
namespace Go.Proofs.YtoccbcfjbingbaaGreatDoor.X30
open Go Go.RowKit Go.Shelf Go.Proofs.YtoccbcfjbingbaaGreatDoorW.PrintWords Go.Proofs.YtoccbcfjbingbaaGreatDoorW.PrintLast Go.Proofs.YtoccbcfjbingbaaGreatDoorW.PrintMore Go.WideMaps
theorem sKeyed : Maps.Keyed Tryz.prog 9 := Maps.string_keyed Tryz.underlying9
theorem zeroBool (w : World) : (zeroValue 4).run Tryz.prog w = .ok (.bool false) w := by kernel_rfl
def keyS (s : ByteArray) : Lit := .string s.data.toList
theorem keyS_ok {s : ByteArray} (hs : s.size ≤ maxLen) : keyOf Tryz.prog 9 (.string s) = some (keyS s) := keyOf_string_mk Tryz.underlying9 hs
theorem keyS_lit (s : ByteArray) : WideAt.IsKeyLit (keyS s) := trivial
theorem keyS_ne {s t : ByteArray} (h : (s.toList == t.toList) = false) : keyS s ≠ keyS t := by
 intro e
 simp only [keyS, Lit.string.injEq] at e
 rw [beq_eq_false_iff_ne] at h
 exact h (by rw [ByteArray.toList_eq, ByteArray.toList_eq, e])
theorem bool_inv {v : Value} {b : Bool} {ps : List MemPlace} (h : plainElem (H := Unit) Tryz.prog 4 v = some (.lit (.bool b), ps)) : v = .bool b := by
 have hu : Tryz.prog.underlying 4 = some .bool := Tryz.underlying4
 generalize Tryz.prog = P at h hu
 unfold plainElem at h
 rw [hu] at h
 cases v <;> simp at h
 rw [h.1]
structure SetAt (w : World) (b : Nat) (L : List ByteArray) : Prop where
 own : ∃ (D : DataW Unit) (n : Nat), w.ownsMap Tryz.prog 9 (plainElem Tryz.prog 4) b n D ∧ n ≤ L.length ∧ Maps.size D = L.length ∧ Maps.Tidy D ∧ (∀ s : ByteArray, D.atKey (keyS s) (.lit (.bool false)) = .lit (.bool (memS L s))) ∧ (∀ s, Maps.has D (keyS s) = memS L s)
theorem SetAt.of_heap {w w' : World} {b : Nat} {L : List ByteArray} (h : SetAt w b L) (he : w'.heap[b]? = w.heap[b]?) : SetAt w' b L := by
 obtain ⟨D, n, ⟨es, clock, hb, r⟩, r2⟩ := h.own
 exact ⟨D, n, ⟨es, clock, he.trans hb, r⟩, r2⟩
theorem SetAt.below {w w' : World} {b : Nat} {L : List ByteArray} (h : SetAt w b L) (hb : Below w.heap.size w w') : SetAt w' b L := by
 obtain ⟨D, n, ⟨es, clock, hbk, r⟩, r2⟩ := h.own
 exact h.of_heap (hb.block b (blk_lt hbk))
theorem SetAt.lt {w : World} {b : Nat} {L : List ByteArray} (h : SetAt w b L) : b < w.heap.size := by
 obtain ⟨D, n, ⟨es, clock, hbk, r⟩, r2⟩ := h.own
 exact blk_lt hbk
theorem SetAt.no_cells {w : World} {b : Nat} {L : List ByteArray} (h : SetAt w b L) {cs : Array Value} {t : TypeId} {fr : Nat × Nat} : w.heap[b]? ≠ some (.cells cs t fr) := by
 obtain ⟨D, n, ⟨es, clock, hbk, r⟩, r2⟩ := h.own
 rw [hbk]; intro e; cases e
theorem SetAt.made (w : World) : SetAt (w.alloc (.map #[] 0)) w.heap.size [] :=
 ⟨.map [], 0, World.ownsMap_made _ _ _ _, Nat.le_refl _, rfl, Maps.tidy_empty, fun _ => rfl, fun _ => rfl⟩
theorem SetAt.look {w : World} {b : Nat} {L : List ByteArray} (h : SetAt w b L) {s : ByteArray} (hs : s.size ≤ maxLen) :
 (Instr.lookup 54 (.map (some b)) (.string s) false).run Tryz.prog w = .ok (.bool (memS L s)) w := by
 obtain ⟨D, n, ho, hn, hz, ht, ha, hh⟩ := h.own
 obtain ⟨v, ps, hrun, hv⟩ := ho.lookup sKeyed Tryz.underlying54 (zeroBool w) (plainElem_bool Tryz.underlying4 false) (keyS_ok hs)
 rw [ha s] at hv
 have : v = .bool (memS L s) := bool_inv hv
 rw [hrun, this]
theorem memS_app (L : List ByteArray) (s x : ByteArray) : memS (L ++ [s]) x = (memS L x || (x.toList == s.toList)) := by simp [memS, List.any_append]
theorem SetAt.len {w : World} {b : Nat} {L : List ByteArray} (h : SetAt w b L) (ty : TypeId) : (Builtin.len_ #[54] ty #[.map (some b)]).run Tryz.prog w = .ok (.int .i64 L.length) w := by
 obtain ⟨D, n, ho, hn, hz, ht, ha, hh⟩ := h.own
 rw [ho.len Tryz.underlying54 ty, hz]
theorem wpList_set_add {w : World} {ops : Array Oper} {rest : List Oper} {o : Oper} {a : Act} {Q : Exit → Act → World → Prop} (hg : o.guard = none) (m x v : Operand) (hop : o.op = Op.mapUpdate 54 m x v) (b : Nat) (L : List ByteArray) (s : ByteArray)
 (hm : a.eval m = .map (some b)) (h : SetAt w b L) (hs : s.size ≤ maxLen) (hl : L.length < maxLen) (hno : memS L s = false) (hx : a.eval x = .string s) (hv : a.eval v = .bool true)
 (hK : ∀ w', SetAt w' b (L ++ [s]) → w.grownBy w' (some b) → wpList Tryz.prog ops Q rest (a.put o.dst undef) w') : wpList Tryz.prog ops Q (o :: rest) a w := by
 obtain ⟨D, n, ho, hn, hz, ht, ha, hh⟩ := h.own
 refine wpList_mapUpdate_own w hg m x v 54 hop 9 4 sKeyed Tryz.underlying54 (plainElem Tryz.prog 4) b n D hm ho (by omega) _ _ (keyS s) hx hv (keyS_ok hs) (.lit (.bool true)) [] (plainElem_bool Tryz.underlying4 true) ?_
 intro w' ho' hg'
 refine hK w' ⟨_, n + 1, ho', by simp; omega, ?_, Maps.Tidy.put ht (keyS_lit s) _, fun y => ?_, fun y => ?_⟩ hg'
 · rw [Maps.size_put ht, hh s, hno]; simp [hz]
 · rw [memS_app]
   cases e : (y.toList == s.toList) with
   | true =>
    have : y = s := str_ext' (beq_iff_eq.1 e)
    subst this
    rw [Maps.atKey_put_same ht.isMap (keyS_lit _)]; simp
   | false => rw [Maps.atKey_put_other (keyS_ne e), ha y]; simp
 · rw [memS_app]
   cases e : (y.toList == s.toList) with
   | true =>
    have : y = s := str_ext' (beq_iff_eq.1 e)
    subst this
    rw [Maps.has_put_same ht.isMap (keyS_lit _)]; simp
   | false => rw [Maps.has_put_other (keyS_ne e), hh y]; simp
theorem wpList_set_look {w : World} {ops : Array Oper} {rest : List Oper} {o : Oper} {a : Act} {Q : Exit → Act → World → Prop} (hg : o.guard = none) (m x : Operand) (hop : o.op = Op.lookup 54 m x false) (b : Nat) (L : List ByteArray) (s : ByteArray)
 (hm : a.eval m = .map (some b)) (h : SetAt w b L) (hs : s.size ≤ maxLen) (hx : a.eval x = .string s) (hK : wpList Tryz.prog ops Q rest (a.put o.dst (.bool (memS L s))) w) : wpList Tryz.prog ops Q (o :: rest) a w := by
 refine wpList_plain hg fun K' hK' => ?_
 have hrun := h.look hs
 unfold Oper.wp
 simp [execOp, hop, hm, hx, hrun, Result.andThen]
 exact hK' _ _ hK
theorem wpList_set_len {w : World} {ops : Array Oper} {rest : List Oper} {o : Oper} {a : Act} {Q : Exit → Act → World → Prop} (hg : o.guard = none) (m : Operand) (hop : o.op = Op.call { callee := Callee.builtin Builtin.len, args := #[m], argTypes := #[54] }) (b : Nat) (L : List ByteArray)
 (hm : a.eval m = .map (some b)) (h : SetAt w b L) (hK : wpList Tryz.prog ops Q rest (a.put o.dst (.int .i64 L.length)) w) : wpList Tryz.prog ops Q (o :: rest) a w := by
 obtain ⟨D, n, ho, hn, hz, ht, ha, hh⟩ := h.own
 refine wpList_len_own w hg m 54 hop 9 4 Tryz.underlying54 (plainElem Tryz.prog 4) b n D hm ho ?_
 rw [hz]; exact hK
end Go.Proofs.YtoccbcfjbingbaaGreatDoor.X30
namespace Go.Proofs.YtoccbcfjbingbaaGreatDoor.X30
open Go Go.RowKit Go.Shelf Go.Proofs.YtoccbcfjbingbaaGreatDoorW.PrintWords Go.Proofs.YtoccbcfjbingbaaGreatDoorW.PrintLast Go.Proofs.YtoccbcfjbingbaaGreatDoorW.PrintMore
set_option linter.unusedVariables false
def fdOf (s : ByteArray) : Option Fd := allFd.find? (fun f => f.str.toList == s.toList)
def FT.start (id : ByteArray) (kind : Int) : FT := { FT.zero with id := id, kind := kind }
def fill (k n : Nat) (F : FT) (met : List ByteArray) : List S45 → Option (Sum (FT × List ByteArray) Int)
 | [] => some (.inl (F, met))
 | d :: l => if memS (kAt n).2 d.f0 then (if memS met d.f0 then some (.inr 8) else (fdOf d.f0).bind fun f => (setOf k F f d.f1).bind fun p => if p.2 then fill k n p.1 (met ++ [d.f0]) l else some (.inr 3)) else some (.inr 7)
def fromFields (k : Nat) (id kind : ByteArray) (l : List S45) : Option (FT × Int) :=
 if (kindNo kind).2 then
  (fill k ((kindNo kind).1 - 1).toNat (FT.start id (kindNo kind).1) [] l).bind fun res => match res with
   | .inr e => some (FT.zero, e)
   | .inl (F, met) => if met.length < (kAt ((kindNo kind).1 - 1).toNat).2.length then some (FT.zero, 9) else (checkOf k F).bind fun e => if e = 0 then some (F, 0) else some (FT.zero, e)
 else some (FT.zero, 11)
theorem kindNo_le (s : ByteArray) : (kindNo s).2 = true → 1 ≤ (kindNo s).1 ∧ (kindNo s).1 ≤ 8 := by
 unfold kindNo
 split
 · next i h =>
   intro _
   have := (List.findIdx?_eq_some_iff_getElem.1 h).1
   have h8 : kindTab.length = 8 := rfl
   simp only
   omega
 · intro h; cases h
theorem fd_of_mem {n : Nat} (hn : n < 8) {s : ByteArray} (h : memS (kAt n).2 s = true) : ∃ f, fdOf s = some f ∧ f.str = s ∧ s.size ≤ maxLen := by
 unfold memS at h
 rw [kindFd_str n hn, List.any_map, List.any_eq_true] at h
 obtain ⟨f, -, hf⟩ := h
 have hs : s = f.str := str_ext' (by simpa using hf)
 subst hs
 refine ⟨f, ?_, rfl, ?_⟩
 · cases f <;> kernel_rfl
 · cases f <;> decide +kernel
abbrev put12 (w : World) (g : Nat) (F : FT) (v3 v5 : Value) : World := ((((((((((((w.setCell ⟨g, 0, none⟩ (.string F.id)).setCell ⟨g, 1, none⟩ (.int .i64 F.kind)).setCell ⟨g, 2, none⟩ (.string F.onT)).setCell ⟨g, 3, none⟩ (v3)).setCell ⟨g, 4, none⟩ (.string F.andT)).setCell ⟨g, 5, none⟩ (v5)).setCell ⟨g, 6, none⟩ (.string F.sketch)).setCell ⟨g, 7, none⟩ (.string F.amount)).setCell ⟨g, 8, none⟩ (.string F.count)).setCell ⟨g, 9, none⟩ (.string F.x)).setCell ⟨g, 10, none⟩ (.string F.y)).setCell ⟨g, 11, none⟩ (.string F.z))
theorem put12_blk {w : World} {g : Nat} {F0 : FT} {u3 u5 : Value} (F : FT) (v3 v5 : Value) (h : w.heap[g]? = some (.cells (featCells F0 u3 u5) 30 (0, 0))) : (put12 w g F v3 v5).heap[g]? = some (.cells (featCells F v3 v5) 30 (0, 0)) := by
 have h0 := blk_put (cs' := #[.string F.id, .int .i64 F0.kind, .string F0.onT, u3, .string F0.andT, u5, .string F0.sketch, .string F0.amount, .string F0.count, .string F0.x, .string F0.y, .string F0.z]) h 0 (.string F.id) rfl
 have h1 := blk_put (cs' := #[.string F.id, .int .i64 F.kind, .string F0.onT, u3, .string F0.andT, u5, .string F0.sketch, .string F0.amount, .string F0.count, .string F0.x, .string F0.y, .string F0.z]) h0 1 (.int .i64 F.kind) rfl
 have h2 := blk_put (cs' := #[.string F.id, .int .i64 F.kind, .string F.onT, u3, .string F0.andT, u5, .string F0.sketch, .string F0.amount, .string F0.count, .string F0.x, .string F0.y, .string F0.z]) h1 2 (.string F.onT) rfl
 have h3 := blk_put (cs' := #[.string F.id, .int .i64 F.kind, .string F.onT, v3, .string F0.andT, u5, .string F0.sketch, .string F0.amount, .string F0.count, .string F0.x, .string F0.y, .string F0.z]) h2 3 (v3) rfl
 have h4 := blk_put (cs' := #[.string F.id, .int .i64 F.kind, .string F.onT, v3, .string F.andT, u5, .string F0.sketch, .string F0.amount, .string F0.count, .string F0.x, .string F0.y, .string F0.z]) h3 4 (.string F.andT) rfl
 have h5 := blk_put (cs' := #[.string F.id, .int .i64 F.kind, .string F.onT, v3, .string F.andT, v5, .string F0.sketch, .string F0.amount, .string F0.count, .string F0.x, .string F0.y, .string F0.z]) h4 5 (v5) rfl
 have h6 := blk_put (cs' := #[.string F.id, .int .i64 F.kind, .string F.onT, v3, .string F.andT, v5, .string F.sketch, .string F0.amount, .string F0.count, .string F0.x, .string F0.y, .string F0.z]) h5 6 (.string F.sketch) rfl
 have h7 := blk_put (cs' := #[.string F.id, .int .i64 F.kind, .string F.onT, v3, .string F.andT, v5, .string F.sketch, .string F.amount, .string F0.count, .string F0.x, .string F0.y, .string F0.z]) h6 7 (.string F.amount) rfl
 have h8 := blk_put (cs' := #[.string F.id, .int .i64 F.kind, .string F.onT, v3, .string F.andT, v5, .string F.sketch, .string F.amount, .string F.count, .string F0.x, .string F0.y, .string F0.z]) h7 8 (.string F.count) rfl
 have h9 := blk_put (cs' := #[.string F.id, .int .i64 F.kind, .string F.onT, v3, .string F.andT, v5, .string F.sketch, .string F.amount, .string F.count, .string F.x, .string F0.y, .string F0.z]) h8 9 (.string F.x) rfl
 have h10 := blk_put (cs' := #[.string F.id, .int .i64 F.kind, .string F.onT, v3, .string F.andT, v5, .string F.sketch, .string F.amount, .string F.count, .string F.x, .string F.y, .string F0.z]) h9 10 (.string F.y) rfl
 have h11 := blk_put (cs' := #[.string F.id, .int .i64 F.kind, .string F.onT, v3, .string F.andT, v5, .string F.sketch, .string F.amount, .string F.count, .string F.x, .string F.y, .string F.z]) h10 11 (.string F.z) rfl
 exact h11
theorem put12_keep (w : World) (g : Nat) (F : FT) (v3 v5 : Value) : KeepBut w (put12 w g F v3 v5) g none := ((((((((((((KeepBut.refl w g none).set_ 0 _).set_ 1 _).set_ 2 _).set_ 3 _).set_ 4 _).set_ 5 _).set_ 6 _).set_ 7 _).set_ 8 _).set_ 9 _).set_ 10 _).set_ 11 _
theorem put12_below {w0 w : World} {g : Nat} (F : FT) (v3 v5 : Value) (h : Below w0.heap.size w0 w) (hg : w0.heap.size ≤ g) : Below w0.heap.size w0 (put12 w g F v3 v5) := (below_set (below_set (below_set (below_set (below_set (below_set (below_set (below_set (below_set (below_set (below_set (below_set h hg) hg) hg) hg) hg) hg) hg) hg) hg) hg) hg) hg)
theorem feat_cells {w : World} {g : Nat} {F : FT} {v3 v5 : Value} (h : w.heap[g]? = some (.cells (featCells F v3 v5) 30 (0, 0))) : w.cell? ⟨g, 0, none⟩ = some (.string F.id) ∧ w.cell? ⟨g, 1, none⟩ = some (.int .i64 F.kind) ∧ w.cell? ⟨g, 2, none⟩ = some (.string F.onT) ∧ w.cell? ⟨g, 3, none⟩ = some (v3) ∧ w.cell? ⟨g, 4, none⟩ = some (.string F.andT) ∧ w.cell? ⟨g, 5, none⟩ = some (v5) ∧ w.cell? ⟨g, 6, none⟩ = some (.string F.sketch) ∧ w.cell? ⟨g, 7, none⟩ = some (.string F.amount) ∧ w.cell? ⟨g, 8, none⟩ = some (.string F.count) ∧ w.cell? ⟨g, 9, none⟩ = some (.string F.x) ∧ w.cell? ⟨g, 10, none⟩ = some (.string F.y) ∧ w.cell? ⟨g, 11, none⟩ = some (.string F.z) :=
 ⟨(blk_cell h 0).trans rfl, (blk_cell h 1).trans rfl, (blk_cell h 2).trans rfl, (blk_cell h 3).trans rfl, (blk_cell h 4).trans rfl, (blk_cell h 5).trans rfl, (blk_cell h 6).trans rfl, (blk_cell h 7).trans rfl, (blk_cell h 8).trans rfl, (blk_cell h 9).trans rfl, (blk_cell h 10).trans rfl, (blk_cell h 11).trans rfl⟩
def FromPost (w : World) (p : FT × Int) (e : Ending) (w' : World) : Prop :=
 ∃ v3_ v5_ : Value, e = .returned (.tuple #[.agg (featCells p.1 v3_ v5_), .int .i64 p.2]) ∧ Kd.Q Kd.string 9 w' w.heap.size (fun k_ => True ∧ some k_ ≠ (v5_ : Value).ownBlock) v3_ p.1.onA ∧ Kd.Q Kd.string 9 w' w.heap.size (fun k_ => True ∧ some k_ ≠ (v3_ : Value).ownBlock) v5_ p.1.andA ∧ Below w.heap.size w w'
theorem FromPost.zero {w W : World} {e : Int} {F0 : FT} {u3 u5 : Value} (_hb : W.heap[w.heap.size]? = some (.cells (featCells F0 u3 u5) 30 (0, 0))) (h : Below w.heap.size w W) :
 FromPost w (FT.zero, e) (.returned (.tuple #[.agg (featCells FT.zero (.slice none 0 0) (.slice none 0 0)), .int .i64 e])) (put12 W w.heap.size FT.zero (.slice none 0 0) (.slice none 0 0)) :=
 ⟨_, _, rfl, Kd.Q_nil _ _ _ _ _, Kd.Q_nil _ _ _ _ _, put12_below _ _ _ h (Nat.le_refl _)⟩
structure FmAt (w wr : World) (P : Nat) (F : FT) (v3 v5 : Value) (met : List ByteArray) : Prop where
 own : FeatOwn wr w.heap.size P F v3 v5
 box : wr.heap[P + 1]? = some (.cells #[.pointer (some ⟨P, 0, none⟩)] 53 (0, 0))
 set : SetAt wr (P + 2) met
 res : wr.heap[w.heap.size]? = some (.cells (featCells FT.zero (.slice none 0 0) (.slice none 0 0)) 30 (0, 0))
 hb : Below w.heap.size w wr
 hlt : w.heap.size < P
theorem FmAt.below {w wr w' : World} {P : Nat} {F : FT} {v3 v5 : Value} {met : List ByteArray} (h : FmAt w wr P F v3 v5 met) (hb : Below wr.heap.size wr w') : FmAt w w' P F v3 v5 met :=
 ⟨h.own.below hb, blk_below h.box hb, h.set.below hb, blk_below h.res hb, below_step h.hb hb, h.hlt⟩
theorem FmAt.keep {w wr w' : World} {P : Nat} {F F' : FT} {v3 v5 v3' v5' : Value} {met : List ByteArray} (h : FmAt w wr P F v3 v5 met) (ho : FeatOwn w' w.heap.size P F' v3' v5') (hk : KeepBut wr w' P none) (hb : Below P wr w') : FmAt w w' P F' v3' v5' met :=
 ⟨ho, hk.blk h.box (by omega) (by simp), h.set.of_heap (hk.2 _ h.set.lt (by omega) (by simp)), hk.blk h.res (by have := h.hlt; omega) (by simp),
  below_weaken h.hb (Nat.le_of_lt h.hlt) hb, h.hlt⟩
theorem FmAt.add {w wr w' : World} {P : Nat} {F : FT} {v3 v5 : Value} {met met' : List ByteArray} (h : FmAt w wr P F v3 v5 met) (hs : SetAt w' (P + 2) met') (hg : wr.grownBy w' (some (P + 2))) : FmAt w w' P F v3 v5 met' := by
 have hm : ∀ k, k < wr.heap.size → k ≠ P + 2 → w'.heap[k]? = wr.heap[k]? := fun k hk hne => hg.block k hk (by simpa using hne)
 have hq : ∀ {ok : Nat → Prop} {v : Value} {xs : List ByteArray}, Kd.Q Kd.string 9 wr w.heap.size ok v xs → Kd.Q Kd.string 9 w' w.heap.size ok v xs := fun hq =>
  Kd.Q_mono (Kd.Q_step (Kd.Q_bound hq) (fun k hk hlt => hm k hlt (fun e => by
   obtain ⟨q, -, cells, hc⟩ := hk.2.2.2
   rw [e] at hc
   exact h.set.no_cells hc))) (fun _ hk => hk.1)
 exact ⟨⟨blk_grown h.own.blk hg (by simp), hq h.own.q3, hq h.own.q5⟩, blk_grown h.box hg (by simp), hs, blk_grown h.res hg (by have := h.hlt; simp; omega), h.hb.grown hg h.hb.size (fun j hj => by have := h.hlt; simp at hj; omega), h.hlt⟩
set_option maxHeartbeats 6400000 in
set_option maxRecDepth 100000 in
theorem From_walk (k : Nat) (a0 a1 : ByteArray) (A2 : Option Addr) (c2 : Nat) (l2 : List S45) (p : FT × Int) (w : World) (hr2 : Kd.C k45 w A2 l2.length l2) (hc2 : l2.length ≤ c2) (hp : fromFields k a0 a1 l2 = some p) (hG : Env w) :
 Calls Tryz.prog 11 #[.string a0, .string a1, .slice A2 l2.length c2] w (FromPost w p) := by
 have hmm := @run_makeMap Tryz.prog
 obtain ⟨kk, okk, hkn⟩ : ∃ kk okk, kindNo a1 = (kk, okk) := ⟨_, _, rfl⟩
 have HKN := Aside0.mk hkn
 have HP := Aside0.mk hp
 have HR2 := Aside0.mk hr2
 have HG := Aside0.mk hG
 have hRB := blk_new w (.cells (featCells FT.zero (.slice none 0 0) (.slice none 0 0)) 30)
 have hb0 := below_alloc (Below.refl w.heap.size w) (.cells (featCells FT.zero (.slice none 0 0) (.slice none 0 0)) 30)
 have hG0 := hG.below hb0
 clear hkn hp hr2 hG
 go_enter Tryz.func11, Tryz.ntmps11
 go_wp2_with fail
 refine (feature_KindByName.calls a1 kk okk _ (congrArg some HKN.out) hG0).mono ?_
 rintro e1 w1 ⟨rfl, hb1⟩
 have HB1 := Aside0.mk (below_step hb0 hb1)
 have hR1 := blk_below hRB hb1
 have HR1 := Aside0.mk hR1
 clear hb0 hb1 hRB hG0
 have hp := HP.out
 unfold fromFields at hp
 rw [HKN.out] at hp
 simp only at hp
 cases okk with
 | false =>
  rw [if_neg Bool.false_ne_true] at hp
  obtain rfl := Option.some.inj hp
  obtain ⟨y0, y1, y2, y3, y4, y5, y6, y7, y8, y9, y10, y11⟩ := feat_cells hR1
  have yf := blk_frozen hR1
  clear hp HP hR1
  go_wp2_with fail
  refine bodyPost_ret (results_ct rfl _ _ w.heap.size 30 (featCells FT.zero (.slice none 0 0) (.slice none 0 0)) (0, 0) _ rfl (put12_blk FT.zero (.slice none 0 0) (.slice none 0 0) HR1.out) Tryz.underlying30 rfl (by kernel_rfl)) rfl ?_
  exact FromPost.zero HR1.out HB1.out
 | true =>
  rw [if_pos rfl] at hp
  obtain ⟨hk1, hk8⟩ : 1 ≤ kk ∧ kk ≤ 8 := by have := kindNo_le a1 (by rw [HKN.out]); rw [HKN.out] at this; exact this
  obtain ⟨n, hn⟩ : ∃ n : Nat, n = (kk - 1).toNat := ⟨_, rfl⟩
  have hn8 : n < 8 := by omega
  have hkk : kk = (n : Int) + 1 := by omega
  rw [← hn] at hp
  subst hkk
  obtain ⟨res, hfill, hp⟩ := Option.bind_eq_some_iff.1 hp
  have HFILL := Aside0.mk hfill
  have HPP := Aside0.mk hp
  have HO0 : FeatOwn (w1.alloc (.cells (featCells (FT.start a0 ((n : Int) + 1)) (.slice none 0 0) (.slice none 0 0)) 30)) w.heap.size w1.heap.size (FT.start a0 ((n : Int) + 1)) (.slice none 0 0) (.slice none 0 0) := ⟨blk_new _ _, Kd.Q_nil _ _ _ _ _, Kd.Q_nil _ _ _ _ _⟩
  have HB2 := Aside0.mk (below_step HB1.out (below_alloc (Below.refl _ _) (.cells (featCells (FT.start a0 ((n : Int) + 1)) (.slice none 0 0) (.slice none 0 0)) 30)))
  clear hp hfill HP hn hk1 hk8 hR1
  go_wp2_with fail
  refine (fields_yes n hn8 w _ HG.out HB2.out).mono ?_
  rintro e2 w2 ⟨Ao, co, rfl, hlo, hCo, rfl⟩
  have HCO := Aside0.mk hCo
  have HLO := Aside0.mk hlo
  clear hCo hlo
  go_wp2_with fail
  refine (places_any ⟨w1.heap.size, 0, none⟩ _).mono ?_
  rintro e3 w3 ⟨rfl, rfl⟩
  go_wp2_with fail
  have hA1 := below_alloc (Below.refl (w1.alloc (.cells (featCells (FT.start a0 ((n : Int) + 1)) (.slice none 0 0) (.slice none 0 0)) 30)).heap.size (w1.alloc (.cells (featCells (FT.start a0 ((n : Int) + 1)) (.slice none 0 0) (.slice none 0 0)) 30))) (.cells #[.pointer (some ⟨w1.heap.size, 0, none⟩)] 53)
  have hbox := blk_new (w1.alloc (.cells (featCells (FT.start a0 ((n : Int) + 1)) (.slice none 0 0) (.slice none 0 0)) 30)) (.cells #[.pointer (some ⟨w1.heap.size, 0, none⟩)] 53)
  rw [show (w1.alloc (.cells (featCells (FT.start a0 ((n : Int) + 1)) (.slice none 0 0) (.slice none 0 0)) 30)).heap.size = w1.heap.size + 1 by simp] at hbox
  have hset := SetAt.made ((w1.alloc (.cells (featCells (FT.start a0 ((n : Int) + 1)) (.slice none 0 0) (.slice none 0 0)) 30)).alloc (.cells #[.pointer (some ⟨w1.heap.size, 0, none⟩)] 53))
  rw [show ((w1.alloc (.cells (featCells (FT.start a0 ((n : Int) + 1)) (.slice none 0 0) (.slice none 0 0)) 30)).alloc (.cells #[.pointer (some ⟨w1.heap.size, 0, none⟩)] 53)).heap.size = w1.heap.size + 2 by simp] at hset
  have hA2 := below_alloc hA1 (.map #[] 0)
  have HM0 : Aside0 (FmAt w (((w1.alloc (.cells (featCells (FT.start a0 ((n : Int) + 1)) (.slice none 0 0) (.slice none 0 0)) 30)).alloc (.cells #[.pointer (some ⟨w1.heap.size, 0, none⟩)] 53)).alloc (.map #[] 0)) w1.heap.size (FT.start a0 ((n : Int) + 1)) (.slice none 0 0) (.slice none 0 0) []) :=
   ⟨HO0.below hA2, blk_alloc hbox _, hset, blk_alloc (blk_alloc (blk_alloc HR1.out _) _) _, below_step HB2.out hA2, blk_lt HR1.out⟩
  clear hA1 hbox hset hA2 HO0 HB2 HB1 HR1
  obtain ⟨P, hP⟩ : ∃ P, P = w1.heap.size := ⟨_, rfl⟩
  rw [← hP] at HM0
  rw [show w1.heap.size + 1 + 1 = w1.heap.size + 2 by omega, ← hP]
  clear hP
  go_loopw [38] (fun i wr => ∃ (m : Nat) (F : FT) (v3 v5 : Value) (met : List ByteArray), i = .int .i64 m ∧ m ≤ l2.length ∧ Aside0 (FmAt w wr P F v3 v5 met) ∧ Aside0 (fill k n F met (l2.drop m) = some res) ∧ met.length = m)
   (fun i _ => l2.length - (intOf i).toNat)
  case atStart => exact ⟨0, _, _, _, [], rfl, Nat.zero_le _, HM0, HFILL, rfl⟩
  case round =>
   obtain ⟨m, F, v3, v5, met, rfl, hm, HM, HFL, hmet⟩ := hrel
   clear HM0 HFILL
   by_cases hlt : m < l2.length
   · obtain ⟨⟨nm, tx⟩, hd⟩ : ∃ d, l2[m]? = some d := ⟨_, List.getElem?_eq_getElem hlt⟩
     have hl63 : l2.length ≤ 9223372036854775807 := HR2.out.2.1
     obtain ⟨ad, rfl, x0, x1⟩ := at_T45 (Kd.C_below HR2.out HM.out.hb) m (by omega) (by omega)
     have hrd : rd_T45 l2 m = ⟨nm, tx⟩ := by unfold rd_T45; rw [Int.toNat_natCast, List.getD_eq_getElem?_getD, hd]; rfl
     rw [hrd, Int.toNat_natCast] at x0 x1
     simp only at x0 x1
     have hf := HFL.out
     rw [List.drop_eq_getElem_cons hlt, show l2[m] = ⟨nm, tx⟩ from by rw [List.getElem?_eq_getElem hlt] at hd; exact Option.some.inj hd, fill] at hf
     simp only at hf
     have hspec := contains_spec (kAt n).2 nm HCO.out.2.1 ((kAt n).2.length + 1) (Nat.lt_succ_self _)
     have HM1 := Aside0.mk (HM.out.below (below_alloc (Below.refl wr.heap.size wr) (.cells #[.string nm, .string tx] 45)))
     have hdb := blk_new wr (.cells #[.string nm, .string tx] 45)
     have hcon := slices_Contains_string_string.calls _ Ao co (kAt n).2 nm _ _ (Kd.C_below HCO.out HM1.out.hb) HLO.out hspec
     obtain ⟨Db, hDb⟩ : ∃ Db, Db = wr.heap.size := ⟨_, rfl⟩
     have hDbP : P + 2 < Db := by rw [hDb]; exact HM.out.set.lt
     clear hd hrd HFL hspec
     cases hmem : memS (kAt n).2 nm with
     | false =>
      rw [hmem] at hcon hf
      rw [if_neg Bool.false_ne_true] at hf
      obtain rfl := Option.some.inj hf
      obtain rfl := Option.some.inj HPP.out
      have HCON := Aside0.mk hcon
      clear hmem hcon hf
      go_wp2_with fail
      refine HCON.out.mono ?_
      rintro e4 w4 ⟨rfl, hdr⟩
      have HM2 := HM1.out.below hdr.below
      clear hdr HCON x0 x1 hdb HM1 HM
      obtain ⟨y0, y1, y2, y3, y4, y5, y6, y7, y8, y9, y10, y11⟩ := feat_cells HM2.res
      have yf := blk_frozen HM2.res
      go_wp2_with fail
      refine bodyPost_ret (results_ct rfl _ _ w.heap.size 30 (featCells FT.zero (.slice none 0 0) (.slice none 0 0)) (0, 0) _ rfl (put12_blk FT.zero (.slice none 0 0) (.slice none 0 0) HM2.res) Tryz.underlying30 rfl (by kernel_rfl)) rfl ?_
      exact FromPost.zero HM2.res HM2.hb
     | true =>
      rw [hmem] at hcon hf
      rw [if_pos rfl] at hf
      obtain ⟨f, hfd, rfl, hsz⟩ := fd_of_mem hn8 hmem
      have HCON := Aside0.mk hcon
      clear hmem hcon
      go_wp2_with fail
      refine HCON.out.mono ?_
      rintro e4 w4 ⟨rfl, hdr⟩
      have HM2 := Aside0.mk (HM1.out.below hdr.below)
      have hdb2 := blk_below hdb hdr.below
      rw [← hDb] at hdb2
      rw [← hDb]
      have d0 := (blk_cell hdb2 0).trans rfl
      have d1 := (blk_cell hdb2 1).trans rfl
      clear hdr HCON x0 x1 hdb HM1 HM hDb
      cases hms : memS met f.str with
      | true =>
       rw [hms, if_pos rfl] at hf
       obtain rfl := Option.some.inj hf
       obtain rfl := Option.some.inj HPP.out
       clear hf
       have HMS := Aside0.mk hms
       clear hms
       obtain ⟨y0, y1, y2, y3, y4, y5, y6, y7, y8, y9, y10, y11⟩ := feat_cells HM2.out.res
       have yf := blk_frozen HM2.out.res
       go_wp2_with (first | (at_lookup; refine wpList_set_look rfl _ _ rfl (P + 2) met f.str rfl HM2.out.set hsz rfl ?_; rw [HMS.out]))
       refine bodyPost_ret (results_ct rfl _ _ w.heap.size 30 (featCells FT.zero (.slice none 0 0) (.slice none 0 0)) (0, 0) _ rfl (put12_blk FT.zero (.slice none 0 0) (.slice none 0 0) HM2.out.res) Tryz.underlying30 rfl (by kernel_rfl)) rfl ?_
       exact FromPost.zero HM2.out.res HM2.out.hb
      | false =>
       rw [hms, if_neg Bool.false_ne_true] at hf
       rw [hfd, Option.bind_some] at hf
       obtain ⟨⟨F', ok⟩, hset, hf⟩ := Option.bind_eq_some_iff.1 hf
       simp only at hf
       have HSET := Aside0.mk hset
       have HF := Aside0.mk hf
       have HMS := Aside0.mk hms
       clear hms hset hf hfd
       go_wp2_with (first | (at_lookup; refine wpList_set_look rfl _ _ rfl (P + 2) met f.str rfl HM2.out.set hsz rfl ?_; rw [HMS.out]))
       have HMd := Aside0.mk (HM2.out.below (pw_below_drewN (Below.refl w4.heap.size w4) 1))
       have HDd := Aside0.mk (blk_below hdb2 (pw_below_drewN (Below.refl w4.heap.size w4) 1))
       clear HM2 hdb2
       go_region_with (first | (go_at_call 39; refine (places1_any f (P + 1) P _ ((blk_cell HMd.out.box 0).trans rfl)).mono ?_; rintro e5 w5 ⟨rfl, hb5⟩; have HM5 := Aside0.mk (HMd.out.below hb5); have HD5 := Aside0.mk (blk_below HDd.out hb5); clear hb5; have s0 : w5.cell? ⟨Db, 0, none⟩ = some (.string f.str) := (blk_cell HD5.out 0).trans rfl; have s1 : w5.cell? ⟨Db, 1, none⟩ = some (.string tx) := (blk_cell HD5.out 1).trans rfl) | (go_at_call 25; refine (set_any k f tx HM5.out.own (below_size HM5.out.hb) (HG.out.below HM5.out.hb) HSET.out).mono ?_; rintro e6 w6 ⟨rfl, v3', v5', ho6, hk6, hb6⟩; have HM6 := Aside0.mk (HM5.out.keep ho6 hk6 hb6); have HD6 := Aside0.mk (hk6.blk HD5.out (by omega) (by simp)); clear ho6 hk6 hb6))
       all_goals
        have hff := HF.out
        clear HF HSET HMd HDd HM5 HD5 s0 s1
        cases ok with
        | false =>
         rw [if_neg Bool.false_ne_true] at hff
         obtain rfl := Option.some.inj hff
         obtain rfl := Option.some.inj HPP.out
         clear hff
         obtain ⟨y0, y1, y2, y3, y4, y5, y6, y7, y8, y9, y10, y11⟩ := feat_cells HM6.out.res
         have yf := blk_frozen HM6.out.res
         go_wp2_with fail
         refine bodyPost_ret (results_ct rfl _ _ w.heap.size 30 (featCells FT.zero (.slice none 0 0) (.slice none 0 0)) (0, 0) _ rfl (put12_blk FT.zero (.slice none 0 0) (.slice none 0 0) HM6.out.res) Tryz.underlying30 rfl (by kernel_rfl)) rfl ?_
         exact FromPost.zero HM6.out.res HM6.out.hb
        | true =>
         rw [if_pos rfl] at hff
         have HFL2 := Aside0.mk hff
         have s0 : w6.cell? ⟨Db, 0, none⟩ = some (.string f.str) := (blk_cell HD6.out 0).trans rfl
         clear hff
         go_wp2_with (first | (at_mapUpdate; refine wpList_set_add rfl _ _ _ rfl (P + 2) met f.str rfl HM6.out.set hsz (by unfold maxLen; omega) HMS.out rfl rfl ?_; intro w7 hs7 hg7; have HM7 := Aside0.mk (HM6.out.add hs7 hg7); clear hs7 hg7))
         go_roundw
         case rel => first | exact ⟨m + 1, F', _, _, met ++ [f.str], by go_num, by omega, HM7, HFL2, by simp [hmet]⟩ | ((repeat apply Exists.intro); exact ⟨⟨m + 1, F', _, _, met ++ [f.str], by go_num, by omega, HM7, HFL2, by simp [hmet]⟩, rfl⟩)
         case measure => simp [intOf]; omega
   · have hf := HFL.out
     rw [List.drop_eq_nil_of_le (by omega), fill] at hf
     obtain rfl := Option.some.inj hf
     have hpp := HPP.out
     simp only at hpp
     clear hf HFL HPP
     by_cases hshort : met.length < (kAt n).2.length
     · rw [if_pos hshort] at hpp
       obtain rfl := Option.some.inj hpp
       clear hpp
       obtain ⟨y0, y1, y2, y3, y4, y5, y6, y7, y8, y9, y10, y11⟩ := feat_cells HM.out.res
       have yf := blk_frozen HM.out.res
       go_wp2_with (first | ((with_reducible refine gate_dst (N := 70) rfl ?_); refine wpList_set_len rfl _ rfl (P + 2) met rfl HM.out.set ?_))
       refine bodyPost_ret (results_ct rfl _ _ w.heap.size 30 (featCells FT.zero (.slice none 0 0) (.slice none 0 0)) (0, 0) _ rfl (put12_blk FT.zero (.slice none 0 0) (.slice none 0 0) HM.out.res) Tryz.underlying30 rfl (by kernel_rfl)) rfl ?_
       exact FromPost.zero HM.out.res HM.out.hb
     · rw [if_neg hshort] at hpp
       obtain ⟨e, he, hpp⟩ := Option.bind_eq_some_iff.1 hpp
       have HE := Aside0.mk he
       have HPQ := Aside0.mk hpp
       obtain ⟨A3, c3, A5, c5, rfl, rfl, hat⟩ := HM.out.own.at
       have HAT := Aside0.mk hat
       obtain ⟨q0, q1, q2, q3, q4, q5, q6, q7, q8, q9, q10, q11⟩ := feat_cells HM.out.own.blk
       clear he hpp hat
       go_wp2_with (first | ((with_reducible refine gate_dst (N := 70) rfl ?_); refine wpList_set_len rfl _ rfl (P + 2) met rfl HM.out.set ?_))
       refine (Check_walk k F A3 c3 A5 c5 e _ HAT.out.r3 HAT.out.l3 HAT.out.r5 HAT.out.l5 HE.out (HG.out.below HM.out.hb)).mono ?_
       rintro e8 w8 ⟨rfl, hb8⟩
       have HM8 := Aside0.mk (HM.out.below hb8)
       clear hb8 q0 q1 q2 q3 q4 q5 q6 q7 q8 q9 q10 q11 HM HE HAT
       obtain ⟨y0, y1, y2, y3, y4, y5, y6, y7, y8, y9, y10, y11⟩ := feat_cells HM8.out.res
       have yf := blk_frozen HM8.out.res
       by_cases hz : e = 0
       · subst hz
         have hpq := HPQ.out
         rw [if_pos rfl] at hpq
         obtain rfl := Option.some.inj hpq
         obtain ⟨q0, q1, q2, q3, q4, q5, q6, q7, q8, q9, q10, q11⟩ := feat_cells HM8.out.own.blk
         clear hpq HPQ
         go_wp2_with fail
         refine bodyPost_ret (results_ct rfl _ _ w.heap.size 30 (featCells F (.slice A3 F.onA.length c3) (.slice A5 F.andA.length c5)) (0, 0) _ rfl (put12_blk F (.slice A3 F.onA.length c3) (.slice A5 F.andA.length c5) HM8.out.res) Tryz.underlying30 rfl (by kernel_rfl)) rfl ?_
         have kb := put12_keep w8 w.heap.size F (.slice A3 F.onA.length c3) (.slice A5 F.andA.length c5)
         exact ⟨_, _, rfl, Kd.Q_mono (Kd.Q_keep (Kd.Q_types HM8.out.own.q3 HM8.out.res (by decide)) kb (fun _ hk => hk.2)) (fun _ hk => hk.1), Kd.Q_mono (Kd.Q_keep (Kd.Q_types HM8.out.own.q5 HM8.out.res (by decide)) kb (fun _ hk => hk.2)) (fun _ hk => hk.1), put12_below _ _ _ HM8.out.hb (Nat.le_refl _)⟩
       · have hz2 : (e != 0) = true := bne_iff_ne.2 hz
         have hpq := HPQ.out
         rw [if_neg hz] at hpq
         obtain rfl := Option.some.inj hpq
         clear hpq HPQ hz
         go_wp2_with fail
         refine bodyPost_ret (results_ct rfl _ _ w.heap.size 30 (featCells FT.zero (.slice none 0 0) (.slice none 0 0)) (0, 0) _ rfl (put12_blk FT.zero (.slice none 0 0) (.slice none 0 0) HM8.out.res) Tryz.underlying30 rfl (by kernel_rfl)) rfl ?_
         exact FromPost.zero HM8.out.res HM8.out.hb
theorem FromFields_any (k : Nat) (a0 a1 : ByteArray) (A2 : Option Addr) (c2 : Nat) (l2 : List S45) (p : FT × Int) (w : World) (hr2 : Kd.C k45 w A2 l2.length l2) (hc2 : l2.length ≤ c2) (hp : fromFields k a0 a1 l2 = some p) (hG : Env w) :
 Calls Tryz.prog 11 #[.string a0, .string a1, .slice A2 l2.length c2] w fun e w' => ∃ v3_ v5_ : Value, e = .returned (.tuple #[.agg #[.string p.1.id, .int .i64 p.1.kind, .string p.1.onT, v3_, .string p.1.andT, v5_, .string p.1.sketch, .string p.1.amount, .string p.1.count, .string p.1.x, .string p.1.y, .string p.1.z], .int .i64 p.2]) ∧
  Kd.Q Kd.string 9 w' w.heap.size (fun k_ => True ∧ some k_ ≠ (v5_ : Value).ownBlock) v3_ p.1.onA ∧ Kd.Q Kd.string 9 w' w.heap.size (fun k_ => True ∧ some k_ ≠ (v3_ : Value).ownBlock) v5_ p.1.andA ∧ Below w.heap.size w w' :=
 From_walk k a0 a1 A2 c2 l2 p w hr2 hc2 hp hG
end Go.Proofs.YtoccbcfjbingbaaGreatDoor.X30
