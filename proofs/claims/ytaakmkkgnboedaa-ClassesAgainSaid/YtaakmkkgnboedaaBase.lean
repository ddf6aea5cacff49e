/- General words: what a call may change, slices that are owned or read, cell by cell; append over such a slice. -/
import Derived.WalkKit
import Derived.Below
import Derived.ArgAppend
import Derived.Deep.QuietTactic
import Derived.BigQuiet
import Derived.Lib.Hide
import Derived.WalkSpells
import Derived.Deep.RegionHeld3
import Derived.Deep.DeepCutAuto
import Derived.StillTailTactics
import Derived.Deep.LoopGhost
import Derived.Deep.CutBlock
set_option linter.unusedVariables false
set_option linter.unusedSimpArgs false
namespace Go.Kb
open Go.RowKit

/-- Blocks that were there and are not in S are as they were; streams too. -/
structure Upd (S : Nat → Prop) (w w' : World) : Prop where
  os : w'.os = w.os
  tape : w'.tape = w.tape
  output : w'.output = w.output
  size : w.heap.size ≤ w'.heap.size
  block : ∀ k, k < w.heap.size → ¬ S k → w'.heap[k]? = w.heap[k]?

/-- A call returns a value of which R holds, in its world. -/
def Gives (R : Value → World → Prop) (e : Ending) (w' : World) : Prop := ∃ v, e = .returned v ∧ R v w'
theorem Gives.mk {R : Value → World → Prop} {v : Value} {w' : World} (h : R v w') : Gives R (.returned v) w' := ⟨v, rfl, h⟩
/-- A length that no bound of the machine stops. -/
def Fits (n : Nat) : Prop := n ≤ 60000
theorem Fits.maxLen {n : Nat} (h : Fits n) : 0 + n ≤ maxLen := by unfold Fits at h; unfold Go.maxLen; omega
theorem Fits.mul {n : Nat} (h : Fits n) (b : Nat) (hb : b ≤ 1000) : (0 + n) * b ≤ 140737488355328 := by
  unfold Fits at h
  have := Nat.mul_le_mul h hb
  rw [Nat.zero_add]
  omega
theorem ret_bool {a b : Bool} (h : a = b) : Ending.returned (.bool a) = .returned (.bool b) := by rw [h]
theorem ret_int {k : IntKind} {a b : Int} (h : a = b) : Ending.returned (.int k a) = .returned (.int k b) := by rw [h]
/-- Nothing. -/
def No : Nat → Prop := fun _ => False
/-- Only block. -/
def Only (b : Nat) : Nat → Prop := fun k => k = b
/-- From a number on. -/
def From (n : Nat) : Nat → Prop := fun k => n ≤ k

section
variable {S S' : Nat → Prop} {w w1 w2 : World}
theorem Upd.refl (S : Nat → Prop) (w : World) : Upd S w w := ⟨rfl, rfl, rfl, Nat.le_refl _, fun _ _ _ => rfl⟩
theorem Upd.mono (h : Upd S w w1) (hs : ∀ k, k < w.heap.size → S k → S' k) : Upd S' w w1 :=
  ⟨h.os, h.tape, h.output, h.size, fun k hk hn => h.block k hk (fun hS => hn (hs k hk hS))⟩
theorem Upd.trans (h : Upd S w w1) (k : Upd S' w1 w2) (hs : ∀ k, k < w.heap.size → S' k → S k) : Upd S w w2 :=
  ⟨k.os.trans h.os, k.tape.trans h.tape, k.output.trans h.output, Nat.le_trans h.size k.size, fun i hi hn =>
    (k.block i (Nat.lt_of_lt_of_le hi h.size) (fun hS => hn (hs i hi hS))).trans (h.block i hi hn)⟩
theorem Upd.then0 (h : Upd S w w1) (k : Upd No w1 w2) : Upd S w w2 := h.trans k (fun _ _ f => f.elim)
theorem Upd.same (h : Upd S w w1) (k : Upd S w1 w2) : Upd S w w2 := h.trans k (fun _ _ f => f)
theorem Upd.alloc (h : Upd S w w1) (o : Obj) : Upd S w (w1.alloc o) :=
  h.then0 ⟨rfl, rfl, rfl, by simp, fun k hk _ => Below.heap_alloc _ _ _ hk⟩
theorem Upd.drew (h : Upd S w w1) : Upd S w w1.drew := h.then0 ⟨rfl, rfl, rfl, Nat.le_refl _, fun _ _ _ => rfl⟩
theorem Upd.drewN (h : Upd S w w1) (n : Nat) : Upd S w (w1.drewN n) := h.then0 ⟨rfl, rfl, rfl, Nat.le_refl _, fun _ _ _ => rfl⟩
theorem Upd.setCell (h : Upd S w w1) {p : Addr} (hp : p.block < w.heap.size → S p.block) (u : Value) : Upd S w (w1.setCell p u) :=
  h.trans (S' := Only p.block) ⟨rfl, rfl, rfl, by simp [World.setCell], fun k _ hn => Below.heap_setCell _ _ _ _ hn⟩ (fun k hk e => by cases e; exact hp hk)
theorem Upd.below (h : Upd No w w1) : Below w.heap.size w w1 := ⟨h.os, h.tape, h.output, h.size, fun k hk => h.block k hk (fun f => f)⟩
theorem Upd.of_below (h : Below w.heap.size w w1) : Upd S w w1 := ⟨h.os, h.tape, h.output, h.size, fun k hk _ => h.block k hk⟩
theorem Upd.of_grown {row : Option Nat} (h : w.grownBy w1 row) (hr : ∀ k, row = some k → S k) : Upd S w w1 :=
  ⟨h.os, h.tape, h.output, h.size, fun k hk hn => h.block k hk (fun e => hn (hr k e.symm))⟩
theorem Upd.cell (h : Upd S w w1) {a : Addr} (hl : a.block < w.heap.size) (hn : ¬ S a.block) : w1.cell? a = w.cell? a := World.cell?_of_block (h.block _ hl hn)
theorem Upd.frozen (h : Upd S w w1) {a : Addr} (hl : a.block < w.heap.size) (hn : ¬ S a.block) : w1.frozen? a = w.frozen? a := World.frozen?_of_block (h.block _ hl hn)
theorem Upd.cellS {a : Addr} {u : Value} (h : Upd S w w1) (hc : w.cell? a = some u) (hn : ¬ S a.block) : w1.cell? a = some u := (h.cell (World.block_lt_of_cell? w a hc) hn).trans hc
theorem Upd.cell0 {a : Addr} {u : Value} (h : Upd No w w1) (hc : w.cell? a = some u) : w1.cell? a = some u := h.cellS hc (fun f => f)
/-- Both facts for all old cells outside S, for the walk. -/
theorem Upd.cells0 (h : Upd No w w1) : (∀ b o, b < w.heap.size → w1.cell? ⟨b, o, none⟩ = w.cell? ⟨b, o, none⟩) ∧ (∀ b o, b < w.heap.size → w1.frozen? ⟨b, o, none⟩ = w.frozen? ⟨b, o, none⟩) :=
  ⟨fun b o hl => h.cell (a := ⟨b, o, none⟩) hl (fun f => f), fun b o hl => h.frozen (a := ⟨b, o, none⟩) hl (fun f => f)⟩
end

theorem blk_lt {w : World} {g : Nat} {o : Obj} (h : w.heap[g]? = some o) : g < w.heap.size := (Array.getElem?_eq_some_iff.1 h).1
theorem Upd.blk {S : Nat → Prop} {w w1 : World} (h : Upd S w w1) {g : Nat} {o : Obj} (hg : w.heap[g]? = some o) (hn : ¬ S g) : w1.heap[g]? = some o := (h.block g (blk_lt hg) hn).trans hg
theorem cell_of_blk {w : World} {g : Nat} {cur : Array Value} {t : TypeId} {fr : Nat × Nat} (h : w.heap[g]? = some (.cells cur t fr)) (j : Nat) : w.cell? ⟨g, j, none⟩ = cur[j]? := cell_of_row w g j cur t fr h
theorem frozen_of_blk {w : World} {g : Nat} {cur : Array Value} {t : TypeId} (h : w.heap[g]? = some (.cells cur t (0, 0))) (j : Nat) : w.frozen? ⟨g, j, none⟩ = false := frozen_of_row w g j cur t h
theorem blk_setCell {w : World} {g i : Nat} {cur : Array Value} {t : TypeId} (h : w.heap[g]? = some (.cells cur t (0, 0))) (v : Value) :
    (w.setCell ⟨g, i, none⟩ v).heap[g]? = some (.cells (cur.setIfInBounds i v) t (0, 0)) := heap_setCell_same w g i cur t v h
theorem blk_setCell_other {w : World} {g : Nat} {a : Addr} {o : Obj} (h : w.heap[g]? = some o) (hne : g ≠ a.block) (v : Value) : (w.setCell a v).heap[g]? = some o := (Below.heap_setCell w a v g hne).trans h
theorem blk_alloc {w : World} {g : Nat} {o : Obj} (h : w.heap[g]? = some o) (x : Obj) : (w.alloc x).heap[g]? = some o := (Below.heap_alloc w x g (blk_lt h)).trans h
theorem blk_new (w : World) (x : Obj) : (w.alloc x).heap[w.heap.size]? = some x := heap_alloc_new w x

/-- A slice of n elements of 'sz' cells each, over a block of cells that may be written: what it holds, cell by cell. -/
def OC (w : World) (ty : TypeId) (sz : Nat) (v : Value) (n : Nat) (cs : List Value) (F : Nat → Prop) : Prop :=
  cs.length = n * sz ∧ n ≤ maxLen ∧ ((∃ a, v = .slice a 0 0 ∧ n = 0) ∨
    ∃ g off cap cur, v = .slice (some ⟨g, off, none⟩) n cap ∧ n ≤ cap ∧ w.heap[g]? = some (.cells cur ty (0, 0)) ∧ off + cap * sz ≤ cur.size ∧ F g ∧ ∀ j u, cs[j]? = some u → cur[off + j]? = some u)
/-- A slice that is read. -/
def RC (w : World) (sz : Nat) (v : Value) (n : Nat) (cs : List Value) (F : Nat → Prop) : Prop :=
  cs.length = n * sz ∧ n ≤ maxLen ∧ ∃ a cap, v = .slice a n cap ∧ n ≤ cap ∧ (n = 0 ∨ ∃ g off, a = some ⟨g, off, none⟩ ∧ F g ∧ g < w.heap.size ∧ ∀ j u, cs[j]? = some u → w.cell? ⟨g, off + j, none⟩ = some u)

section
variable {w w1 : World} {ty : TypeId} {sz n : Nat} {v : Value} {cs : List Value} {F F' S : Nat → Prop}
theorem OC.nil (w : World) (ty : TypeId) (sz : Nat) (F : Nat → Prop) (a : Option Addr) : OC w ty sz (.slice a 0 0) 0 [] F := ⟨by simp, by simp [maxLen], .inl ⟨a, rfl, rfl⟩⟩
theorem OC.mono (h : OC w ty sz v n cs F) (hf : ∀ k, k < w.heap.size → F k → F' k) : OC w ty sz v n cs F' := by
  obtain ⟨h1, hm, h2 | ⟨g, off, cap, cur, hv, hn, hb, hs, hF, hc⟩⟩ := h
  · exact ⟨h1, hm, .inl h2⟩
  · exact ⟨h1, hm, .inr ⟨g, off, cap, cur, hv, hn, hb, hs, hf g (blk_lt hb) hF, hc⟩⟩
theorem OC.bound (h : OC w ty sz v n cs F) : OC w ty sz v n cs (fun k => F k ∧ k < w.heap.size) := h.mono (fun k hk hF => ⟨hF, hk⟩)
theorem OC.keep (h : OC w ty sz v n cs F) (hu : Upd S w w1) (hd : ∀ k, k < w.heap.size → F k → ¬ S k) : OC w1 ty sz v n cs F := by
  obtain ⟨h1, hm, h2 | ⟨g, off, cap, cur, hv, hn, hb, hs, hF, hc⟩⟩ := h
  · exact ⟨h1, hm, .inl h2⟩
  · exact ⟨h1, hm, .inr ⟨g, off, cap, cur, hv, hn, hu.blk hb (hd g (blk_lt hb) hF), hs, hF, hc⟩⟩
theorem OC.rc (h : OC w ty sz v n cs F) : RC w sz v n cs F := by
  obtain ⟨h1, hm, ⟨a, rfl, rfl⟩ | ⟨g, off, cap, cur, hv, hn, hb, hs, hF, hc⟩⟩ := h
  · exact ⟨h1, hm, a, 0, rfl, Nat.le_refl _, .inl rfl⟩
  · exact ⟨h1, hm, _, cap, hv, hn, .inr ⟨g, off, rfl, hF, blk_lt hb, fun j u hj => (cell_of_blk hb _).trans (hc j u hj)⟩⟩
theorem RC.mono (h : RC w sz v n cs F) (hf : ∀ k, k < w.heap.size → F k → F' k) : RC w sz v n cs F' := by
  obtain ⟨h1, hm, a, cap, hv, hn, h2 | ⟨g, off, ha, hF, hl, hc⟩⟩ := h
  · exact ⟨h1, hm, a, cap, hv, hn, .inl h2⟩
  · exact ⟨h1, hm, a, cap, hv, hn, .inr ⟨g, off, ha, hf g hl hF, hl, hc⟩⟩
theorem RC.bound (h : RC w sz v n cs F) : RC w sz v n cs (fun k => F k ∧ k < w.heap.size) := h.mono (fun k hk hF => ⟨hF, hk⟩)
theorem RC.keep (h : RC w sz v n cs F) (hu : Upd S w w1) (hd : ∀ k, k < w.heap.size → F k → ¬ S k) : RC w1 sz v n cs F := by
  obtain ⟨h1, hm, a, cap, hv, hn, h2 | ⟨g, off, ha, hF, hl, hc⟩⟩ := h
  · exact ⟨h1, hm, a, cap, hv, hn, .inl h2⟩
  · exact ⟨h1, hm, a, cap, hv, hn, .inr ⟨g, off, ha, hF, Nat.lt_of_lt_of_le hl hu.size, fun j u hj => (hu.cell (a := ⟨g, off + j, none⟩) hl (hd g hl hF)).trans (hc j u hj)⟩⟩
theorem RC.slice (h : RC w sz v n cs F) : ∃ a cap, v = .slice a n cap ∧ n ≤ cap := by
  obtain ⟨h1, hm, a, cap, hv, hn, _⟩ := h
  exact ⟨a, cap, hv, hn⟩
/-- The address written out, where there is an element. -/
theorem RC.at (h : RC w sz v n cs F) (hp : 0 < n) : ∃ g off cap, v = .slice (some ⟨g, off, none⟩) n cap ∧ n ≤ cap ∧ F g ∧ g < w.heap.size ∧ ∀ j u, cs[j]? = some u → w.cell? ⟨g, off + j, none⟩ = some u := by
  obtain ⟨h1, hm, a, cap, hv, hn, h2 | ⟨g, off, rfl, hF, hl, hc⟩⟩ := h
  · omega
  · exact ⟨g, off, cap, hv, hn, hF, hl, hc⟩
theorem OC.at (h : OC w ty sz v n cs F) (hp : 0 < n) : ∃ g off cap cur, v = .slice (some ⟨g, off, none⟩) n cap ∧ n ≤ cap ∧ w.heap[g]? = some (.cells cur ty (0, 0)) ∧ off + cap * sz ≤ cur.size ∧ F g ∧ ∀ j u, cs[j]? = some u → cur[off + j]? = some u := by
  obtain ⟨h1, hm, ⟨a, rfl, rfl⟩ | h2⟩ := h
  · omega
  · exact h2
end

theorem OC.slice {w : World} {ty : TypeId} {sz n : Nat} {v : Value} {cs : List Value} {F : Nat → Prop} (h : OC w ty sz v n cs F) : ∃ a cap, v = .slice a n cap ∧ n ≤ cap := h.rc.slice
theorem Upd.set1 (w : World) (g o : Nat) (u : Value) : Upd (Only g) w (w.setCell ⟨g, o, none⟩ u) := (Upd.refl (Only g) w).setCell (p := ⟨g, o, none⟩) (fun _ => rfl) u
theorem not_only {k g : Nat} (h : k ≠ g) : ¬ Only g k := h
/-- A store into a block of another type. -/
theorem OC.keep1 {w w1 : World} {ty ty' : TypeId} {sz n g : Nat} {v : Value} {cs : List Value} {F : Nat → Prop} {cur : Array Value} {fr : Nat × Nat} (h : OC w ty sz v n cs F) (hu : Upd (Only g) w w1) (hg : w.heap[g]? = some (.cells cur ty' fr)) (hne : ty ≠ ty') : OC w1 ty sz v n cs F := by
  obtain ⟨h1, hm, h2 | ⟨g', off, cap, cur', hv, hn, hb, hs, hF, hc⟩⟩ := h
  · exact ⟨h1, hm, .inl h2⟩
  · refine ⟨h1, hm, .inr ⟨g', off, cap, cur', hv, hn, hu.blk hb (fun e => ?_), hs, hF, hc⟩⟩
    cases e
    rw [hg] at hb
    injection hb with hb
    injection hb with _ ht _
    exact hne ht.symm
theorem OC.size_pos {w : World} {ty : TypeId} {sz n : Nat} {v : Value} {cs : List Value} {F : Nat → Prop} (h : OC w ty sz v n cs F) : cs.length = n * sz := h.1
/-- What a block holds, for the walk: every cell, and that it may be written. -/
theorem blk_walk {w : World} {g : Nat} {cur : Array Value} {t : TypeId} (h : w.heap[g]? = some (.cells cur t (0, 0))) : (∀ j, w.cell? ⟨g, j, none⟩ = cur[j]?) ∧ (∀ j, w.frozen? ⟨g, j, none⟩ = false) :=
  ⟨cell_of_blk h, frozen_of_blk h⟩
/-! ### setCells as a world -/
theorem setCells_size (g : Nat) : ∀ (l : List Value) (o : Nat) (w : World), (w.setCells g o l).heap.size = w.heap.size
  | [], _, _ => rfl
  | v :: l, o, w => by rw [World.setCells, setCells_size g l]; simp
theorem setCells_upd (g : Nat) : ∀ (l : List Value) (o : Nat) (w : World), Upd (Only g) w (w.setCells g o l)
  | [], _, w => Upd.refl _ _
  | v :: l, o, w => by
    rw [World.setCells]
    exact ((Upd.refl (Only g) w).setCell (p := ⟨g, o, none⟩) (fun _ => rfl) v).same (setCells_upd g l (o + 1) _)
theorem setCells_blk (g : Nat) (ty : TypeId) : ∀ (l : List Value) (o : Nat) (w : World) (cur : Array Value), w.heap[g]? = some (.cells cur ty (0, 0)) → o + l.length ≤ cur.size →
    ∃ cur', (w.setCells g o l).heap[g]? = some (.cells cur' ty (0, 0)) ∧ cur'.size = cur.size ∧ ∀ k, cur'[k]? = if o ≤ k ∧ k < o + l.length then l[k - o]? else cur[k]?
  | [], o, w, cur, hb, _ => ⟨cur, hb, rfl, fun k => by rw [if_neg]; simp⟩
  | v :: l, o, w, cur, hb, hl => by
    simp only [List.length_cons] at hl
    obtain ⟨cur', h1, h2, h3⟩ := setCells_blk g ty l (o + 1) (w.setCell ⟨g, o, none⟩ v) (cur.setIfInBounds o v) (blk_setCell hb v) (by simp; omega)
    refine ⟨cur', h1, by simpa using h2, fun k => ?_⟩
    rw [h3 k]
    simp only [List.length_cons]
    by_cases hk : k = o
    · subst hk
      rw [if_neg (by omega), if_pos (by omega)]
      simp [show k < cur.size by omega]
    · by_cases hk2 : o + 1 ≤ k ∧ k < o + 1 + l.length
      · rw [if_pos hk2, if_pos (by omega)]
        obtain ⟨m, rfl⟩ : ∃ m, k = o + 1 + m := ⟨k - (o + 1), by omega⟩
        rw [show o + 1 + m - (o + 1) = m by omega, show o + 1 + m - o = m + 1 by omega]
        simp
      · rw [if_neg hk2, if_neg (by omega)]
        simp [Array.getElem?_setIfInBounds, Ne.symm hk]

/-! ### append -/
section
variable {P : Program} {w : World} {e : TypeId} {size bytes n m : Nat} {v x : Value} {cs ds : List Value} {F G : Nat → Prop} {i : TypeInfo} {z : Value}
/-- 'append(v, x...)': v owned, x read. -/
theorem run_append_ocR (t ty : TypeId) (ht : P.underlying t = some (.slice e)) (hi : P.info? e = some i) (hz : i.zero = some z) (hsz : i.size = size) (hby : i.bytes = bytes) (hzs : z.cells.size = size) (h0 : 0 < size)
    (HO : OC w e size v n cs F) (HR : RC w size x m ds G) (h1 : ∀ u ∈ ds, u.oneCell' = true) (b1 : n + m ≤ maxLen) (b2 : (n + m) * bytes ≤ 140737488355328) :
    ∃ v' w', (Builtin.append_ #[t, t] ty #[v, x]).run P w = .ok v' w' ∧ OC w' e size v' (n + m) (cs ++ ds) (fun k => F k ∨ w.heap.size ≤ k) ∧ Upd F w w' ∧ (∀ g off cap, v = .slice (some ⟨g, off, none⟩) n cap → n + m ≤ cap → v' = .slice (some ⟨g, off, none⟩) (n + m) cap ∧ (0 < cap → ∃ cur', w'.heap[g]? = some (.cells cur' e (0, 0)) ∧ off + cap * size ≤ cur'.size)) := by
  subst hsz
  obtain ⟨hdl, hdm, xa, xc, rfl, hxc, hx⟩ := HR
  obtain ⟨hcl, hcm, hv⟩ := HO
  have hlen : (cs ++ ds).length = (n + m) * i.size := by rw [List.length_append, hcl, hdl, Nat.add_mul]
  rcases Nat.eq_zero_or_pos m with hm0 | hmp
  · -- nothing is appended
    subst hm0
    obtain rfl : ds = [] := List.eq_nil_of_length_eq_zero (by simpa using hdl)
    have hfc : ∀ w : World, (Builtin.firstCells i.size 0 (.slice xa 0 xc)).run P w = .ok #[] w := by
      intro w
      cases xa with
      | none => exact run_firstCells_none (P := P) w _ _ _ _
      | some b => simpa using run_firstCells_some (P := P) w i.size 0 b 0 xc [] (by simp) (by simp)
    rcases hv with ⟨a, rfl, rfl⟩ | ⟨g, off, cap, cur, rfl, hn, hb, hs, hF, hc⟩
    · refine ⟨.slice a 0 0, w, ?_, ⟨by simp [hcl], by simp [maxLen], .inl ⟨a, rfl, rfl⟩⟩, Upd.refl _ _, fun g off cap h _ => ⟨h, fun hp => by injection h with _ _ h3; omega⟩⟩
      cases a <;> simp [Builtin.append_, run_underlying ht, sizeOf, typeInfo, hi, Builtin.lenOf, hfc, storeCells]
    · refine ⟨.slice (some ⟨g, off, none⟩) n cap, w, ?_, ⟨by simpa using hcl, by simpa using hcm, .inr ⟨g, off, cap, cur, rfl, by simpa using hn, hb, hs, .inl hF, by simpa using hc⟩⟩, Upd.refl _ _, fun g' off' cap' h _ => ⟨h, fun _ => by cases h; exact ⟨cur, hb, hs⟩⟩⟩
      simp [Builtin.append_, run_underlying ht, sizeOf, typeInfo, hi, Builtin.lenOf, hfc, hn, storeCells]
  · obtain ⟨xg, xoff, rfl, hxF, hxl, hxcell⟩ := hx.resolve_left (by omega)
    have hnews : ∀ j u, ds[j]? = some u → w.cell? ((⟨xg, xoff, none⟩ : Addr).add j) = some u := fun j u hj => by rw [Addr.add_lit]; exact hxcell j u hj
    have grown : ∀ {v' w'}, w'.ownsRow w.heap.size e i.size v' (n + m) (cs ++ ds) → w.grownBy w' none → OC w' e i.size v' (n + m) (cs ++ ds) (fun k => F k ∨ w.heap.size ≤ k) ∧ Upd F w w' := by
      intro v' w' r1 r2
      refine ⟨⟨hlen, b1, .inr ?_⟩, Upd.of_grown r2 (fun k hk => by cases hk)⟩
      rcases r1.2 with ⟨_, hz0⟩ | ⟨g, cap, cur, rfl, hbase, hh, hnc, hcx, hcs, htk⟩
      · omega
      · refine ⟨g, 0, cap, cur, rfl, hnc, hh, by omega, .inr hbase, fun j u hj => ?_⟩
        rw [← htk, List.getElem?_take] at hj
        split at hj
        · simpa using hj
        · cases hj
    rcases hv with ⟨a, rfl, rfl⟩ | ⟨g, off, cap, cur, rfl, hn, hb, hs, hF, hc⟩
    · obtain rfl : cs = [] := List.eq_nil_of_length_eq_zero (by simpa using hcl)
      cases a with
      | none =>
        obtain ⟨v', w', hrun, r1, r2, _⟩ := run_append_own (P := P) w w.heap.size t ty e i z i.size bytes ht hi hz rfl hby hzs h0 (.slice none 0 0) 0 [] (World.ownsRow_nil w _ e _) ⟨xg, xoff, none⟩ m xc ds hdl hnews h1 b1 b2 (Nat.le_refl _)
        exact ⟨v', w', hrun, (grown r1 r2).1, (grown r1 r2).2, fun g off cap h _ => by injection h with h; cases h⟩
      | some b =>
        obtain ⟨v', w', hrun, r1, r2⟩ := run_append_arg_grows (P := P) w t ty e i z i.size bytes ht hi hz rfl hby hzs h0 b 0 0 [] (by simp) (by simp) ⟨xg, xoff, none⟩ m xc ds hdl hnews (by omega) b1 b2
        exact ⟨v', w', hrun, (grown r1 r2).1, (grown r1 r2).2, fun g off cap h hr => by injection h with h1 h2 h3; omega⟩
    · by_cases hroom : n + m ≤ cap
      · have hfit : off + n * i.size + ds.length ≤ cur.size := by
          have : (n + m) * i.size ≤ cap * i.size := Nat.mul_le_mul_right _ hroom
          rw [Nat.add_mul] at this
          omega
        have hrun := run_append_room_cells (P := P) w t ty e i ht hi g off n cap ⟨xg, xoff, none⟩ m xc ds hdl hnews h1 hroom
          (fun j hj => by rw [cell_of_blk hb]; simp [show off + n * i.size + j < cur.size by omega]) (fun j hj => frozen_of_blk hb _)
        obtain ⟨cur', hb', hs', hc'⟩ := setCells_blk g e ds (off + n * i.size) w cur hb hfit
        refine ⟨_, _, hrun, ⟨hlen, b1, .inr ⟨g, off, cap, cur', rfl, hroom, hb', by omega, .inl hF, fun j u hj => ?_⟩⟩, (setCells_upd g ds _ w).mono (fun k _ hk => by cases hk; exact hF), fun g' off' cap' h _ => by cases h; exact ⟨rfl, fun _ => ⟨cur', hb', by omega⟩⟩⟩
        rw [hc']
        by_cases hj2 : j < cs.length
        · rw [if_neg (by omega)]
          rw [List.getElem?_append_left hj2] at hj
          exact hc j u hj
        · rw [List.getElem?_append_right (by omega)] at hj
          have hjl : j - cs.length < ds.length := (List.getElem?_eq_some_iff.1 hj).1
          rw [if_pos (by omega)]
          rw [show off + j - (off + n * i.size) = j - cs.length by omega]
          exact hj
      · obtain ⟨v', w', hrun, r1, r2⟩ := run_append_arg_grows (P := P) w t ty e i z i.size bytes ht hi hz rfl hby hzs h0 ⟨g, off, none⟩ n cap cs hcl (fun j u hj => by rw [Addr.add_lit, cell_of_blk hb]; exact hc j u hj) ⟨xg, xoff, none⟩ m xc ds hdl hnews (by omega) b1 b2
        exact ⟨v', w', hrun, (grown r1 r2).1, (grown r1 r2).2, fun g off cap h hr => by injection h with h1 h2 h3; omega⟩
/-- 'append(v, x...)': v owned, x read. -/
theorem run_append_oc (t ty : TypeId) (ht : P.underlying t = some (.slice e)) (hi : P.info? e = some i) (hz : i.zero = some z) (hsz : i.size = size) (hby : i.bytes = bytes) (hzs : z.cells.size = size) (h0 : 0 < size)
    (HO : OC w e size v n cs F) (HR : RC w size x m ds G) (h1 : ∀ u ∈ ds, u.oneCell' = true) (b1 : n + m ≤ maxLen) (b2 : (n + m) * bytes ≤ 140737488355328) :
    ∃ v' w', (Builtin.append_ #[t, t] ty #[v, x]).run P w = .ok v' w' ∧ OC w' e size v' (n + m) (cs ++ ds) (fun k => F k ∨ w.heap.size ≤ k) ∧ Upd F w w' := by
  obtain ⟨v', w', h1', h2', h3', _⟩ := run_append_ocR (P := P) t ty ht hi hz hsz hby hzs h0 HO HR h1 b1 b2
  exact ⟨v', w', h1', h2', h3'⟩
/-- The same at the operation. 'at_builtin; refine wpList_append_oc ..'. -/
theorem wpList_append_oc {ops : Array Oper} {rest : List Oper} {o : Oper} {a : Act} {Q : Exit → Act → World → Prop} (hgd : o.guard = none) (s y : Operand) (t : TypeId)
    (ho : o.op = .call { callee := .builtin .append, args := #[s, y], argTypes := #[t, t] })
    (ht : P.underlying t = some (.slice e)) (hinfo : (P.info? e).map (fun i => (i.zero, i.size, i.bytes)) = some (some z, size, bytes)) (hzs : z.cells.size = size) (h0 : 0 < size)
    (hs : a.eval s = v) (hy : a.eval y = x) (HO : OC w e size v n cs F) (HR : RC w size x m ds G) (h1 : ∀ u ∈ ds, u.oneCell' = true) (b1 : n + m ≤ maxLen) (b2 : (n + m) * bytes ≤ 140737488355328)
    (h : ∀ v' w', OC w' e size v' (n + m) (cs ++ ds) (fun k => F k ∨ w.heap.size ≤ k) → Upd F w w' → wpList P ops Q rest (a.put o.dst v') w') : wpList P ops Q (o :: rest) a w := by
  obtain ⟨i, hi, hzz⟩ := Option.map_eq_some_iff.1 hinfo
  simp only [Prod.mk.injEq] at hzz
  obtain ⟨hz, hsz, hby⟩ := hzz
  refine wpList_plain hgd fun K hK' => ?_
  obtain ⟨v', w', hrun, r1, r2⟩ := run_append_oc (P := P) t o.type ht hi hz hsz hby hzs h0 HO HR h1 b1 b2
  unfold Oper.wp
  simp [execOp, ho, resolve, invoke, builtin, hs, hy, hrun, Result.andThen]
  exact hK' _ _ (h v' w' r1 r2)
/-- The same at the operation. 'at_builtin; refine wpList_append_oc ..'. -/
theorem wpList_append_ocR {ops : Array Oper} {rest : List Oper} {o : Oper} {a : Act} {Q : Exit → Act → World → Prop} (hgd : o.guard = none) (s y : Operand) (t : TypeId)
    (ho : o.op = .call { callee := .builtin .append, args := #[s, y], argTypes := #[t, t] })
    (ht : P.underlying t = some (.slice e)) (hinfo : (P.info? e).map (fun i => (i.zero, i.size, i.bytes)) = some (some z, size, bytes)) (hzs : z.cells.size = size) (h0 : 0 < size)
    (hs : a.eval s = v) (hy : a.eval y = x) (HO : OC w e size v n cs F) (HR : RC w size x m ds G) (h1 : ∀ u ∈ ds, u.oneCell' = true) (b1 : n + m ≤ maxLen) (b2 : (n + m) * bytes ≤ 140737488355328)
    (h : ∀ v' w', OC w' e size v' (n + m) (cs ++ ds) (fun k => F k ∨ w.heap.size ≤ k) → Upd F w w' → (∀ g off cap, v = .slice (some ⟨g, off, none⟩) n cap → n + m ≤ cap → v' = .slice (some ⟨g, off, none⟩) (n + m) cap ∧ (0 < cap → ∃ cur', w'.heap[g]? = some (.cells cur' e (0, 0)) ∧ off + cap * size ≤ cur'.size)) → wpList P ops Q rest (a.put o.dst v') w') : wpList P ops Q (o :: rest) a w := by
  obtain ⟨i, hi, hzz⟩ := Option.map_eq_some_iff.1 hinfo
  simp only [Prod.mk.injEq] at hzz
  obtain ⟨hz, hsz, hby⟩ := hzz
  refine wpList_plain hgd fun K hK' => ?_
  obtain ⟨v', w', hrun, r1, r2, r3⟩ := run_append_ocR (P := P) t o.type ht hi hz hsz hby hzs h0 HO HR h1 b1 b2
  unfold Oper.wp
  simp [execOp, ho, resolve, invoke, builtin, hs, hy, hrun, Result.andThen]
  exact hK' _ _ (h v' w' r1 r2 r3)
end
/-- A new block of values, read as a slice over it (a variadic's row, a literal). -/
theorem RC.new (w : World) (sz : Nat) (cs : List Value) (ty : TypeId) (n : Nat) (hn : cs.length = n * sz) (hm : n ≤ maxLen) : RC (w.alloc (.cells cs.toArray ty)) sz (.slice (some ⟨w.heap.size, 0, none⟩) n n) n cs (Only w.heap.size) :=
  ⟨hn, hm, _, n, rfl, Nat.le_refl _, .inr ⟨w.heap.size, 0, rfl, rfl, by simp, fun j u hj => by rw [World.cell?_alloc_new]; simpa using hj⟩⟩
theorem OC.new (w : World) (sz : Nat) (cs : List Value) (ty : TypeId) (n : Nat) (hn : cs.length = n * sz) (hm : n ≤ maxLen) : OC (w.alloc (.cells cs.toArray ty)) ty sz (.slice (some ⟨w.heap.size, 0, none⟩) n n) n cs (Only w.heap.size) :=
  ⟨hn, hm, .inr ⟨w.heap.size, 0, n, cs.toArray, rfl, Nat.le_refl _, blk_new w _, by simp [hn], rfl, fun j u hj => by simpa using hj⟩⟩
section
variable {w : World} {ty : TypeId} {sz n g off cap : Nat} {cs : List Value} {F : Nat → Prop}
/-- Only cell is written. -/
theorem OC.set (h : OC w ty sz (.slice (some ⟨g, off, none⟩) n cap) n cs F) (j : Nat) (hj : j < cs.length) (u : Value) : OC (w.setCell ⟨g, off + j, none⟩ u) ty sz (.slice (some ⟨g, off, none⟩) n cap) n (cs.set j u) F := by
  obtain ⟨hcl, hm, ⟨a, ha, rfl⟩ | ⟨g', off', cap', cur, hv, hn, hb, hs, hF, hc⟩⟩ := h
  · simp at hcl; subst hcl; simp at hj
  · injection hv with h1 h2 h3
    injection h1 with h1
    injection h1 with h1 h4
    subst h1; subst h3; subst h4
    have hle : n * sz ≤ cap * sz := Nat.mul_le_mul_right _ hn
    refine ⟨by simpa using hcl, hm, .inr ⟨g, off, cap, _, rfl, hn, blk_setCell hb u, by simpa using hs, hF, fun k x hk => ?_⟩⟩
    by_cases e : k = j
    · subst e
      rw [List.getElem?_set_self hj] at hk
      simp [show off + k < cur.size by omega, hk]
    · rw [List.getElem?_set_ne (Ne.symm e)] at hk
      rw [Array.getElem?_setIfInBounds_ne (by omega)]
      exact hc k x hk
end

/-! ### whole structs: loaded and stored in one piece -/
section
variable {P : Program} {ops : Array Oper} {rest : List Oper} {o : Oper} {a : Act} {w : World} {Q : Exit → Act → World → Prop}
/-- A guard ahead of an arm: is this the operation? -/
theorem wpList_at (op : Op) (_ : o.op = op) (h : wpList P ops Q (o :: rest) a w) : wpList P ops Q (o :: rest) a w := h
theorem run_loadVar_agg (ty : TypeId) (g off : Nat) (cs : List Value) (d : TypeDesc) (hu : P.underlying ty = some d) (hd : (match d with | .struct _ | .array _ _ => true | _ => false) = true) (hi : (P.info? ty).map (·.size) = some cs.length)
    (hc : ∀ j u, cs[j]? = some u → w.cell? ⟨g, off + j, none⟩ = some u) : (loadVar ty ⟨g, off, none⟩).run P w = .ok (.agg cs.toArray) w := by
  have hl : (loadCells ⟨g, off, none⟩ cs.length).run P w = .ok cs.toArray w :=
    run_loadCells_list (P := P) w ⟨g, off, none⟩ cs (fun j v hv => by rw [Addr.add_lit]; exact hc j v hv)
  cases hq : P.info? ty with
  | none => simp [hq] at hi
  | some i =>
    have hs : i.size = cs.length := by simpa [hq] using hi
    have hagg : (isAgg ty).run P w = .ok true w := by
      unfold isAgg
      rw [Sem.run_bind, run_underlying hu w]
      cases d <;> simp_all
    simp [loadVar, Sem.run_bind, hagg, sizeOf, typeInfo, hq, hs, hl]
theorem wpList_load_agg (hgd : o.guard = none) (ty : TypeId) (x : Operand) (ho : o.op = .load ty x) (g off : Nat) (hx : a.eval x = .pointer (some ⟨g, off, none⟩)) (cs : List Value) (d : TypeDesc)
    (hu : P.underlying ty = some d) (hd : (match d with | .struct _ | .array _ _ => true | _ => false) = true) (hi : (P.info? ty).map (·.size) = some cs.length)
    (hc : ∀ j u, cs[j]? = some u → w.cell? ⟨g, off + j, none⟩ = some u) (h : wpList P ops Q rest (a.put o.dst (.agg cs.toArray)) w) : wpList P ops Q (o :: rest) a w :=
  wpList_plain hgd fun K hK => by
    unfold Oper.wp execOp
    simp only [ho, hx, Instr.loadAt, Instr.sureAddr, Sem.run_bind, Sem.run_pure, Result.andThen_ok, run_loadVar_agg ty g off cs d hu hd hi hc]
    exact hK _ _ h
theorem run_storeVar_agg (ty : TypeId) (g off : Nat) (cs : List Value) (hi : (P.info? ty).map (·.size) = some cs.length) {cur : Array Value} {t : TypeId} (hb : w.heap[g]? = some (.cells cur t (0, 0))) (hfit : off + cs.length ≤ cur.size) (h1 : ∀ u ∈ cs, u.oneCell' = true) :
    (storeVar ty ⟨g, off, none⟩ (.agg cs.toArray)).run P w = .ok () (w.setCells g off cs) := by
  cases hq : P.info? ty with
  | none => simp [hq] at hi
  | some i =>
    have hs : i.size = cs.length := by simpa [hq] using hi
    have hst := run_storeCells_cells (P := P) g off cs 0 w (fun j hj => by rw [cell_of_blk hb, Array.getElem?_eq_getElem (show off + 0 + j < cur.size by omega)]; rfl) (fun j hj => frozen_of_blk hb _) h1
    simp only [Nat.add_zero] at hst
    simp [storeVar, Sem.run_bind, sizeOf, typeInfo, hq, hs, Value.cells, hst]
theorem wp_store_agg {K : Act → World → Prop} (ty : TypeId) (x y : Operand) (ho : o.op = .store ty x y) (g off : Nat) (hx : a.eval x = .pointer (some ⟨g, off, none⟩)) (cs : List Value) (hy : a.eval y = .agg cs.toArray)
    (hi : (P.info? ty).map (·.size) = some cs.length) {cur : Array Value} {t : TypeId} (hb : w.heap[g]? = some (.cells cur t (0, 0))) (hfit : off + cs.length ≤ cur.size) (h1 : ∀ u ∈ cs, u.oneCell' = true)
    (h : K (a.put o.dst undef) (w.setCells g off cs)) : o.wp P a w K Q := by
  unfold Oper.wp execOp
  simp only [ho, hx, hy, Instr.storeAt, Instr.sureAddr, Sem.run_bind, Sem.run_pure, Result.andThen_ok, run_storeVar_agg ty g off cs hi hb hfit h1]
  exact h
theorem wpList_store_agg (hgd : o.guard = none) (ty : TypeId) (x y : Operand) (ho : o.op = .store ty x y) (g off : Nat) (hx : a.eval x = .pointer (some ⟨g, off, none⟩)) (cs : List Value) (hy : a.eval y = .agg cs.toArray)
    (hi : (P.info? ty).map (·.size) = some cs.length) {cur : Array Value} {t : TypeId} (hb : w.heap[g]? = some (.cells cur t (0, 0))) (hfit : off + cs.length ≤ cur.size) (h1 : ∀ u ∈ cs, u.oneCell' = true)
    (h : wpList P ops Q rest (a.put o.dst undef) (w.setCells g off cs)) : wpList P ops Q (o :: rest) a w :=
  wpList_plain hgd fun K hK => by
    unfold Oper.wp execOp
    simp only [ho, hx, hy, Instr.storeAt, Instr.sureAddr, Sem.run_bind, Sem.run_pure, Result.andThen_ok, run_storeVar_agg ty g off cs hi hb hfit h1]
    exact hK _ _ h
end
theorem blk_setCells {w : World} {g off : Nat} {cs : List Value} {cur : Array Value} {t : TypeId} (hb : w.heap[g]? = some (.cells cur t (0, 0))) (hfit : off + cs.length ≤ cur.size) :
    (w.setCells g off cs).heap[g]? = some (.cells (cur.toList.take off ++ cs ++ cur.toList.drop (off + cs.length)).toArray t (0, 0)) := by
  obtain ⟨cur', h1, h2, h3⟩ := setCells_blk g t cs off w cur hb hfit
  rw [h1]
  congr 2
  apply Array.ext_getElem?
  intro k
  rw [h3]
  simp only [List.getElem?_toArray]
  by_cases hk : k < off
  · rw [if_neg (by omega), List.append_assoc, List.getElem?_append_left (by simp; omega), List.getElem?_take_of_lt hk]
    simp
  · by_cases hk2 : k < off + cs.length
    · rw [if_pos (by omega), List.getElem?_append_left (by simp; omega), List.getElem?_append_right (by simp; omega)]
      simp [Nat.min_eq_left (show off ≤ cur.size by omega)]
    · rw [if_neg (by omega), List.getElem?_append_right (by simp; omega), List.getElem?_drop]
      simp [Nat.min_eq_left (show off ≤ cur.size by omega)]
      congr 1
      omega
theorem blk_setCells0 {w : World} {g : Nat} {cs : List Value} {cur : Array Value} {t : TypeId} (hb : w.heap[g]? = some (.cells cur t (0, 0))) (hfit : cs.length = cur.size) :
    (w.setCells g 0 cs).heap[g]? = some (.cells cs.toArray t (0, 0)) := by
  rw [blk_setCells hb (by omega)]
  simp [hfit]
theorem Upd.setsO (w : World) (g o : Nat) (l : List Value) : Upd (Only g) w (w.setCells g o l) := setCells_upd g l o w
section
variable {P : Program} {ops : Array Oper} {rest : List Oper} {o : Oper} {a : Act} {w : World} {Q : Exit → Act → World → Prop}
/-- 'clear(s)' of a slice in a block that may be written. -/
theorem wpList_clear (hgd : o.guard = none) (x : Operand) (t e : TypeId) (z : Value) (ho : o.op = .call { callee := .builtin .clear, args := #[x], argTypes := #[t] }) (ht : P.underlying t = some (.slice e)) (hinfo : (P.info? e).map (fun i => i.zero) = some (some z))
    (g off n cap : Nat) (hx : a.eval x = .slice (some ⟨g, off, none⟩) n cap) {cur : Array Value} {ty : TypeId} (hb : w.heap[g]? = some (.cells cur ty (0, 0))) (hfit : off + n * z.cells.size ≤ cur.size) (hz1 : ∀ u ∈ z.cells.toList, u.oneCell' = true)
    (h : ∀ w', Upd (Only g) w w' → (∃ cur', w'.heap[g]? = some (.cells cur' ty (0, 0)) ∧ cur'.size = cur.size ∧ ∀ k, k < off → cur'[k]? = cur[k]?) → wpList P ops Q rest (a.put o.dst (.tuple #[])) w') : wpList P ops Q (o :: rest) a w := by
  obtain ⟨i, hi, hz⟩ := Option.map_eq_some_iff.1 hinfo
  refine wpList_plain hgd fun K hK' => ?_
  have hrun : ∃ w', (Builtin.clear_ #[t] o.type #[.slice (some ⟨g, off, none⟩) n cap]).run P w = .ok (.tuple #[]) w' ∧ Upd (Only g) w w' ∧ ∃ cur', w'.heap[g]? = some (.cells cur' ty (0, 0)) ∧ cur'.size = cur.size ∧ ∀ k, k < off → cur'[k]? = cur[k]? := by
    cases n with
    | zero => exact ⟨w, by simp [Builtin.clear_, run_underlying ht], Upd.refl _ _, cur, hb, rfl, fun _ _ => rfl⟩
    | succ n =>
      have hlen : (Builtin.zeroCells z.cells (n + 1)).toList.length = (n + 1) * z.cells.size := by simp [Builtin.zeroCells]
      have hone : ∀ u ∈ (Builtin.zeroCells z.cells (n + 1)).toList, u.oneCell' = true := by
        intro u hu
        simp only [Builtin.zeroCells, Array.mem_toList_iff, Array.mem_map, Array.mem_range] at hu
        obtain ⟨j, hj, rfl⟩ := hu
        have hp : 0 < z.cells.size := by
          rcases Nat.eq_zero_or_pos z.cells.size with h | h
          · rw [h] at hj; simp at hj
          · exact h
        have hlt := Nat.mod_lt j hp
        rw [getElem!_pos z.cells (j % z.cells.size) hlt]
        exact hz1 _ (by simp)
      have hst := run_storeCells_cells (P := P) g off (Builtin.zeroCells z.cells (n + 1)).toList 0 w (fun j hj => by rw [cell_of_blk hb, Array.getElem?_eq_getElem (show off + 0 + j < cur.size by omega)]; rfl) (fun j hj => frozen_of_blk hb _) hone
      obtain ⟨cur', h1, h2, h3⟩ := setCells_blk g ty (Builtin.zeroCells z.cells (n + 1)).toList off w cur hb (by omega)
      refine ⟨_, ?_, setCells_upd g _ off w, cur', h1, h2, fun k hk => by rw [h3, if_neg (by omega)]⟩
      simp only [Nat.add_zero] at hst
      simp [Builtin.clear_, run_underlying ht, zeroValue, typeInfo, hi, hz, hst]
  obtain ⟨w', hrun, r1, r2⟩ := hrun
  unfold Oper.wp
  simp [execOp, ho, resolve, invoke, builtin, hx, hrun, Result.andThen]
  exact hK' _ _ (h w' r1 r2)
end
/-- A slice's first elements, and its last ones. -/
theorem OC.cut {w : World} {ty : TypeId} {sz n g off cap : Nat} {cs : List Value} {F : Nat → Prop} (h : OC w ty sz (.slice (some ⟨g, off, none⟩) n cap) n cs F) (i : Nat) (hi : i ≤ n) (hcap : n ≤ cap) (hn : 0 < n) :
    OC w ty sz (.slice (some ⟨g, off, none⟩) i cap) i (cs.take (i * sz)) F := by
  obtain ⟨g', off', cap', cur, he, hn', hb, hs, hF, hc⟩ := h.at hn
  injection he with h1 h2 h3
  injection h1 with h1
  injection h1 with h1 h4
  subst h1; subst h3; subst h4
  have hle : i * sz ≤ n * sz := Nat.mul_le_mul_right _ hi
  refine ⟨by rw [List.length_take, h.1]; omega, Nat.le_trans hi h.2.1, .inr ⟨g, off, cap, cur, rfl, by omega, hb, hs, hF, fun j u hj => ?_⟩⟩
  rw [List.getElem?_take] at hj
  split at hj
  · exact hc j u hj
  · cases hj
theorem RC.cutR {w : World} {sz n g off cap : Nat} {cs : List Value} {F : Nat → Prop} (h : RC w sz (.slice (some ⟨g, off, none⟩) n cap) n cs F) (i : Nat) (hi : i ≤ n) (hn : 0 < n) (c2 : Nat) (hc2 : n - i ≤ c2) (o2 : Nat) (ho2 : i < n → o2 = off + i * sz) :
    RC w sz (.slice (some ⟨g, o2, none⟩) (n - i) c2) (n - i) (cs.drop (i * sz)) F := by
  obtain ⟨g', off', cap', he, hn', hF, hl, hc⟩ := h.at hn
  injection he with h1 h2 h3
  injection h1 with h1
  injection h1 with h1 h4
  subst h1; subst h3; subst h4
  refine ⟨by rw [List.length_drop, h.1, Nat.sub_mul], Nat.le_trans (Nat.sub_le _ _) h.2.1, _, c2, rfl, hc2, ?_⟩
  rcases Nat.lt_or_ge i n with hlt | hge
  · refine .inr ⟨g, o2, rfl, hF, hl, fun j u hj => ?_⟩
    rw [List.getElem?_drop] at hj
    rw [ho2 hlt, Nat.add_assoc]
    exact hc _ u hj
  · exact .inl (by omega)
end Go.Kb
