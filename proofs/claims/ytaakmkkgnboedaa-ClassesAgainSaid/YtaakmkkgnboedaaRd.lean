/- Layer 19: what is read as data lies in memory as the contracts want it. -/
import Derived.Test.YtaakmkkgnboedaaProg
import Derived.Test.YtaakmkkgnboedaaMod
import Derived.ChangeArms
import Derived.ChangeOld
namespace Go.Kb
open Go Go.RowKit
section
variable {H : Type} {enc : TypeId × Value → H} {P : Program} {w : World} {sp : Nat → Bool} {fuel : Nat} {cs : List Value} {x : DataW H × List MemPlace}
/-- Every field of a struct reads. -/
theorem trod_fields {t : TypeId} {fs : Array Field} (ht : P.underlying t = some (.struct fs)) (h : DataW.trod enc P w 0 sp true fuel t cs = some x) :
    cs.length = P.cellsOf t ∧ ∃ n, ∀ (i : Nat) (f : Field), fs[i]? = some f → ∃ y, DataW.trod enc P w 0 sp true n f.type ((cs.drop f.offset).take (P.cellsOf f.type)) = some y := by
  obtain ⟨xs, n, _, rfl, hl, hlen, hf⟩ := DataW.trod_struct ht h
  refine ⟨hl, n, fun i f hi => ?_⟩
  have hlt : i < xs.length := by rw [hlen]; exact (Array.getElem?_eq_some_iff.1 hi).1
  exact ⟨xs[i], by rw [hf i f hi, List.getElem?_eq_getElem hlt]⟩
theorem fieldAt {fs : Array Field} {n : Nat} (hf : ∀ (i : Nat) (f : Field), fs[i]? = some f → ∃ y, DataW.trod enc P w 0 sp true n f.type ((cs.drop f.offset).take (P.cellsOf f.type)) = some y) (i t off sz : Nat)
    (h : fs[i]?.map (fun f => (f.type, f.offset)) = some (t, off)) (hs : P.cellsOf t = sz) : ∃ y, DataW.trod enc P w 0 sp true n t ((cs.drop off).take sz) = some y := by
  obtain ⟨f, hi, he⟩ := Option.map_eq_some_iff.1 h
  simp only [Prod.mk.injEq] at he
  obtain ⟨rfl, rfl⟩ := he
  subst hs
  exact hf i f hi
theorem mapM_cells {w : World} {a : Addr} : ∀ {n : Nat} {l : List Value}, (List.range n).mapM (fun i => w.cell? (a.add i)) = some l → l.length = n ∧ ∀ (j : Nat) (u : Value), l[j]? = some u → w.cell? (a.add j) = some u := by
  intro n l h
  have h1 := mapM_some_length h
  refine ⟨by simpa using h1, fun j u hj => ?_⟩
  have hlt := (List.getElem?_eq_some_iff.1 hj).1
  have := mapM_some_get h j j (by simp at h1; rw [List.getElem?_range (by omega)])
  rw [← this] at hj
  exact hj
/-- A slice that reads as data is a slice that is read, element by element. -/
theorem trod_els {α : Type} {R : α → List Value → Prop} {t e : TypeId} {sz : Nat} (ht : P.underlying t = some (.slice e)) (hsz : P.cellsOf e = sz) (h0 : 0 < sz)
    (hel : ∀ fuel cs x, DataW.trod enc P w 0 sp true fuel e cs = some x → ∃ y, R y cs) (h : DataW.trod enc P w 0 sp true fuel t cs = some x) :
    ∃ (v : Value) (l : List α) (ds : List Value), cs = [v] ∧ RC w sz v l.length ds (fun k => k < w.heap.size) ∧ Els sz R l ds := by
  subst hsz
  rcases DataW.trod_slice ht h with ⟨rfl, _⟩ | ⟨a, len, cap, elems, rest, n, _, rfl, rfl, hb, hl, hm, hlen, hget, _, _⟩
  · exact ⟨_, [], [], rfl, ⟨by simp, by simp [maxLen], none, 0, rfl, Nat.le_refl _, .inl rfl⟩, rfl⟩
  · have hall : ∀ k, k ≤ len → ∃ (l : List α) (ds : List Value), l.length = k ∧ Els (P.cellsOf e) R l ds ∧ ∀ j u, ds[j]? = some u → w.cell? (a.add j) = some u := by
      intro k
      induction k with
      | zero => exact fun _ => ⟨[], [], rfl, rfl, fun j u hj => by simp at hj⟩
      | succ k ih =>
        intro hk
        obtain ⟨l, ds, hll, hE, hc⟩ := ih (by omega)
        have hk' := hget k (by omega)
        rw [List.getElem?_eq_getElem (show k < elems.length by omega)] at hk'
        obtain ⟨c, hc1, hc2⟩ := Option.bind_eq_some_iff.1 hk'
        obtain ⟨y, hy⟩ := hel n c _ hc2
        unfold World.cells? at hc1
        rw [if_pos (Nat.zero_le _)] at hc1
        obtain ⟨hcl, hcc⟩ := mapM_cells hc1
        refine ⟨l ++ [y], ds ++ c, by simp [hll], hE.append (Els.one hcl hy), fun j u hj => ?_⟩
        have hdl := hE.len
        rw [List.getElem?_append] at hj
        split at hj
        · exact hc j u hj
        · have := hcc _ u hj
          rw [Addr.add_add] at this
          rw [hdl, hll] at this
          rw [show k * P.cellsOf e + (j - k * P.cellsOf e) = j by rename_i hnj; rw [hdl, hll] at hnj; omega] at this
          exact this
    obtain ⟨l, ds, hll, hE, hc⟩ := hall len (Nat.le_refl _)
    refine ⟨_, l, ds, rfl, ⟨hE.len, by omega, some a, cap, by rw [hll], by omega, ?_⟩, hE⟩
    rcases Nat.eq_zero_or_pos len with hz | hp
    · exact .inl (by omega)
    · right
      have hdl := hE.len
      have hpos : 0 < ds.length := by
        rw [hdl, hll]
        exact Nat.mul_pos hp h0
      have hfirst := hc 0 ds[0] (List.getElem?_eq_getElem hpos)
      obtain ⟨g, off, spot⟩ := a
      have hspot : spot = none := by simpa [Addr.add] using World.cell?_spot hfirst
      subst hspot
      have hlt := World.block_lt_of_cell? w _ hfirst
      refine ⟨g, off, rfl, hlt, hlt, fun j u hj => ?_⟩
      have := hc j u hj
      rw [← this]
      congr 1
      unfold Addr.add
      split
      · next h => rw [h, Nat.add_zero]
      · rfl
end
end Go.Kb
namespace Go.Proofs.Ytaakmkkgnboedaa
open Go Go.RowKit Go.Kb
theorem len9 (l : List Value) (h : l.length = 9) : ∃ c0 c1 c2 c3 c4 c5 c6 c7 c8, l = [c0, c1, c2, c3, c4, c5, c6, c7, c8] := by
  match l, h with
  | [c0, c1, c2, c3, c4, c5, c6, c7, c8], _ => exact ⟨c0, c1, c2, c3, c4, c5, c6, c7, c8, rfl⟩
theorem len11 (l : List Value) (h : l.length = 11) : ∃ c0 c1 c2 c3 c4 c5 c6 c7 c8 c9 c10, l = [c0, c1, c2, c3, c4, c5, c6, c7, c8, c9, c10] := by
  match l, h with
  | [c0, c1, c2, c3, c4, c5, c6, c7, c8, c9, c10], _ => exact ⟨c0, c1, c2, c3, c4, c5, c6, c7, c8, c9, c10, rfl⟩
theorem len13 (l : List Value) (h : l.length = 13) : ∃ c0 c1 c2 c3 c4 c5 c6 c7 c8 c9 c10 c11 c12, l = [c0, c1, c2, c3, c4, c5, c6, c7, c8, c9, c10, c11, c12] := by
  match l, h with
  | [c0, c1, c2, c3, c4, c5, c6, c7, c8, c9, c10, c11, c12], _ => exact ⟨c0, c1, c2, c3, c4, c5, c6, c7, c8, c9, c10, c11, c12, rfl⟩
theorem len17 (l : List Value) (h : l.length = 17) : ∃ c0 c1 c2 c3 c4 c5 c6 c7 c8 c9 c10 c11 c12 c13 c14 c15 c16, l = [c0, c1, c2, c3, c4, c5, c6, c7, c8, c9, c10, c11, c12, c13, c14, c15, c16] := by
  match l, h with
  | [c0, c1, c2, c3, c4, c5, c6, c7, c8, c9, c10, c11, c12, c13, c14, c15, c16], _ => exact ⟨c0, c1, c2, c3, c4, c5, c6, c7, c8, c9, c10, c11, c12, c13, c14, c15, c16, rfl⟩
section
variable {H : Type} {enc : TypeId × Value → H} {w : World} {sp : Nat → Bool} {fuel : Nat} {cs : List Value} {x : DataW H × List MemPlace}
theorem trod_info (h : DataW.trod enc Try.prog w 0 sp true fuel 38 cs = some x) : ∃ i : Info, cs = i.c := by
  obtain ⟨hl, n, hf⟩ := trod_fields Try.underlying38 h
  have hl9 : cs.length = 9 := hl.trans (by kernel_rfl)
  have i4 : Try.prog.cellsOf 4 = 1 := by kernel_rfl
  have i5 : Try.prog.cellsOf 5 = 1 := by kernel_rfl
  have i35 : Try.prog.cellsOf 35 = 1 := by kernel_rfl
  have i36 : Try.prog.cellsOf 36 = 1 := by kernel_rfl
  obtain ⟨c0, c1, c2, c3, c4, c5, c6, c7, c8, rfl⟩ := len9 cs hl9
  obtain ⟨_, k0⟩ := hf 0 _ rfl; obtain ⟨a0, e0, _⟩ := DataW.trod_int Try.underlying5 k0
  obtain ⟨_, k1⟩ := hf 1 _ rfl; obtain ⟨a1, e1, _⟩ := DataW.trod_int Try.underlying35 k1
  obtain ⟨_, k2⟩ := hf 2 _ rfl; obtain ⟨a2, e2, _⟩ := DataW.trod_bool Try.underlying4 k2
  obtain ⟨_, k3⟩ := hf 3 _ rfl; obtain ⟨a3, e3, _⟩ := DataW.trod_int Try.underlying36 k3
  obtain ⟨_, k4⟩ := hf 4 _ rfl; obtain ⟨a4, e4, _⟩ := DataW.trod_bool Try.underlying4 k4
  obtain ⟨_, k5⟩ := hf 5 _ rfl; obtain ⟨a5, e5, _⟩ := DataW.trod_int Try.underlying5 k5
  obtain ⟨_, k6⟩ := hf 6 _ rfl; obtain ⟨a6, e6, _⟩ := DataW.trod_int Try.underlying5 k6
  obtain ⟨_, k7⟩ := hf 7 _ rfl; obtain ⟨a7, e7, _⟩ := DataW.trod_bool Try.underlying4 k7
  obtain ⟨_, k8⟩ := hf 8 _ rfl; obtain ⟨a8, e8, _⟩ := DataW.trod_bool Try.underlying4 k8
  simp [i4, i5, i35, i36] at e0 e1 e2 e3 e4 e5 e6 e7 e8
  subst e0 e1 e2 e3 e4 e5 e6 e7 e8
  exact ⟨⟨a0, a1, a2, a3, a4, a5, a6, a7, a8⟩, rfl⟩
theorem trod_desc (h : DataW.trod enc Try.prog w 0 sp true fuel 114 cs = some x) : ∃ d : Desc, ∀ v, cs ++ [v] = (Part.mk d []).c v := by
  obtain ⟨hl, n, hf⟩ := trod_fields Try.underlying114 h
  have hl9 : cs.length = 13 := hl.trans (by kernel_rfl)
  have i4 : Try.prog.cellsOf 4 = 1 := by kernel_rfl
  have i5 : Try.prog.cellsOf 5 = 1 := by kernel_rfl
  have i36 : Try.prog.cellsOf 36 = 1 := by kernel_rfl
  obtain ⟨c0, c1, c2, c3, c4, c5, c6, c7, c8, c9, c10, c11, c12, rfl⟩ := len13 cs hl9
  obtain ⟨_, k0⟩ := hf 0 _ rfl; obtain ⟨a0, e0, _⟩ := DataW.trod_bool Try.underlying4 k0
  obtain ⟨_, k1⟩ := hf 1 _ rfl; obtain ⟨a1, e1, _⟩ := DataW.trod_bool Try.underlying4 k1
  obtain ⟨_, k2⟩ := hf 2 _ rfl; obtain ⟨a2, e2, _⟩ := DataW.trod_int Try.underlying5 k2
  obtain ⟨_, k3⟩ := hf 3 _ rfl; obtain ⟨a3, e3, _⟩ := DataW.trod_bool Try.underlying4 k3
  obtain ⟨_, k4⟩ := hf 4 _ rfl; obtain ⟨a4, e4, _⟩ := DataW.trod_bool Try.underlying4 k4
  obtain ⟨_, k5⟩ := hf 5 _ rfl; obtain ⟨a5, e5, _⟩ := DataW.trod_int Try.underlying36 k5
  obtain ⟨_, k6⟩ := hf 6 _ rfl; obtain ⟨a6, e6, _⟩ := DataW.trod_bool Try.underlying4 k6
  obtain ⟨_, k7⟩ := hf 7 _ rfl; obtain ⟨a7, e7, _⟩ := DataW.trod_int Try.underlying5 k7
  obtain ⟨_, k8⟩ := hf 8 _ rfl; obtain ⟨a8, e8, _⟩ := DataW.trod_bool Try.underlying4 k8
  obtain ⟨_, k9⟩ := hf 9 _ rfl; obtain ⟨a9, e9, _⟩ := DataW.trod_int Try.underlying5 k9
  obtain ⟨_, k10⟩ := hf 10 _ rfl; obtain ⟨a10, e10, _⟩ := DataW.trod_bool Try.underlying4 k10
  obtain ⟨_, k11⟩ := hf 11 _ rfl; obtain ⟨a11, e11, _⟩ := DataW.trod_bool Try.underlying4 k11
  obtain ⟨_, k12⟩ := hf 12 _ rfl; obtain ⟨a12, e12, _⟩ := DataW.trod_int Try.underlying5 k12
  simp [i4, i5, i36] at e0 e1 e2 e3 e4 e5 e6 e7 e8 e9 e10 e11 e12
  subst e0 e1 e2 e3 e4 e5 e6 e7 e8 e9 e10 e11 e12
  exact ⟨⟨a0, a1, a2, a3, a4, a5, a6, a7, a8, a9, a10, a11, a12⟩, fun v => rfl⟩
theorem trod_bytes (h : DataW.trod enc Try.prog w 0 sp true fuel 92 cs = some x) : ∃ v l, cs = [v] ∧ RBytes w v l (fun k => k < w.heap.size) := by
  obtain ⟨v, l, ds, rfl, hR, hE⟩ := trod_els (R := fun (n : Int) c => c = [.int .u8 n]) Try.underlying92 (sz := 1) (by kernel_rfl) (by decide) (fun fuel cs x h => by
    obtain ⟨n, e, _⟩ := DataW.trod_int Try.underlying5 h
    exact ⟨n, e⟩) h
  have : ds = byt l := by
    clear hR h
    induction l generalizing ds with
    | nil => exact hE
    | cons a l ih =>
      obtain ⟨c, r, rfl, _, rfl, hr⟩ := hE
      rw [ih r hr]
      rfl
  subst this
  exact ⟨v, l, rfl, hR⟩
theorem trod_part (h : DataW.trod enc Try.prog w 0 sp true fuel 116 cs = some x) : ∃ p, RPart w (fun k => k < w.heap.size) p cs := by
  obtain ⟨hl, n, hf⟩ := trod_fields Try.underlying116 h
  have hl9 : cs.length = 14 := hl.trans (by kernel_rfl)
  have i92 : Try.prog.cellsOf 92 = 1 := by kernel_rfl
  have i114 : Try.prog.cellsOf 114 = 13 := by kernel_rfl
  obtain ⟨_, k0⟩ := fieldAt hf 0 114 0 13 rfl (by kernel_rfl)
  obtain ⟨_, k1⟩ := fieldAt hf 1 92 13 1 rfl (by kernel_rfl)
  rw [List.drop_zero] at k0
  obtain ⟨d, hd⟩ := trod_desc k0
  obtain ⟨v, l, e, hb⟩ := trod_bytes k1
  have e2 : cs = cs.take 13 ++ [v] := by
    have := List.take_append_drop 13 cs
    rw [List.take_of_length_le (by simp; omega)] at e
    rw [e] at this
    exact this.symm
  exact ⟨⟨d, l⟩, v, e2.trans (hd v), hb⟩
theorem trod_parts (h : DataW.trod enc Try.prog w 0 sp true fuel 39 cs = some x) : ∃ v l, cs = [v] ∧ RParts w v l (fun k => k < w.heap.size) := by
  obtain ⟨v, l, ds, rfl, hR, hE⟩ := trod_els Try.underlying39 (sz := 14) (by kernel_rfl) (by decide) (fun fuel cs x h => trod_part h) h
  exact ⟨v, l, rfl, ds, hR, hE⟩
theorem trod_frame (h : DataW.trod enc Try.prog w 0 sp true fuel 41 cs = some x) : ∃ (f : Fr) (v : Value), cs = f.c v ∧ RParts w v f.parts (fun k => k < w.heap.size) := by
  obtain ⟨hl, n, hf⟩ := trod_fields Try.underlying41 h
  have hl9 : cs.length = 11 := hl.trans (by kernel_rfl)
  have i4 : Try.prog.cellsOf 4 = 1 := by kernel_rfl
  have i38 : Try.prog.cellsOf 38 = 9 := by kernel_rfl
  have i39 : Try.prog.cellsOf 39 = 1 := by kernel_rfl
  obtain ⟨c0, c1, c2, c3, c4, c5, c6, c7, c8, c9, c10, rfl⟩ := len11 cs hl9
  obtain ⟨_, k0⟩ := fieldAt hf 0 38 0 9 rfl (by kernel_rfl)
  obtain ⟨_, k1⟩ := fieldAt hf 1 4 9 1 rfl (by kernel_rfl)
  obtain ⟨_, k2⟩ := fieldAt hf 2 39 10 1 rfl (by kernel_rfl)
  obtain ⟨i, e0⟩ := trod_info k0
  obtain ⟨b, e1, _⟩ := DataW.trod_bool Try.underlying4 k1
  obtain ⟨v, l, e2, hp⟩ := trod_parts k2
  simp [Info.c] at e0 e1 e2
  obtain ⟨rfl, rfl, rfl, rfl, rfl, rfl, rfl, rfl, rfl⟩ := e0
  subst e1 e2
  exact ⟨⟨i, b, l⟩, _, rfl, hp⟩
theorem trod_entry (h : DataW.trod enc Try.prog w 0 sp true fuel 45 cs = some x) : ∃ e, REn w (fun k => k < w.heap.size) e cs := by
  obtain ⟨hl, n, hf⟩ := trod_fields Try.underlying45 h
  have hl9 : cs.length = 17 := hl.trans (by kernel_rfl)
  have i3 : Try.prog.cellsOf 3 = 1 := by kernel_rfl
  have i4 : Try.prog.cellsOf 4 = 1 := by kernel_rfl
  have i5 : Try.prog.cellsOf 5 = 1 := by kernel_rfl
  have i23 : Try.prog.cellsOf 23 = 1 := by kernel_rfl
  have i41 : Try.prog.cellsOf 41 = 11 := by kernel_rfl
  have i43 : Try.prog.cellsOf 43 = 15 := by kernel_rfl
  obtain ⟨c0, c1, c2, c3, c4, c5, c6, c7, c8, c9, c10, c11, c12, c13, c14, c15, c16, rfl⟩ := len17 cs hl9
  obtain ⟨_, k0⟩ := fieldAt hf 0 23 0 1 rfl (by kernel_rfl)
  obtain ⟨_, k1⟩ := fieldAt hf 1 3 1 1 rfl (by kernel_rfl)
  obtain ⟨_, k2⟩ := fieldAt hf 2 43 2 15 rfl (by kernel_rfl)
  obtain ⟨a0, e0, _⟩ := DataW.trod_int Try.underlying23 k0
  obtain ⟨a1, e1, _⟩ := DataW.trod_int Try.underlying3 k1
  obtain ⟨_, n2, hf2⟩ := trod_fields Try.underlying43 k2
  obtain ⟨_, k3⟩ := fieldAt hf2 0 4 0 1 rfl (by kernel_rfl)
  obtain ⟨_, k4⟩ := fieldAt hf2 1 4 1 1 rfl (by kernel_rfl)
  obtain ⟨_, k5⟩ := fieldAt hf2 2 5 2 1 rfl (by kernel_rfl)
  obtain ⟨_, k6⟩ := fieldAt hf2 3 4 3 1 rfl (by kernel_rfl)
  obtain ⟨_, k7⟩ := fieldAt hf2 4 41 4 11 rfl (by kernel_rfl)
  obtain ⟨a3, e3, _⟩ := DataW.trod_bool Try.underlying4 k3
  obtain ⟨a4, e4, _⟩ := DataW.trod_bool Try.underlying4 k4
  obtain ⟨a5, e5, _⟩ := DataW.trod_int Try.underlying5 k5
  obtain ⟨a6, e6, _⟩ := DataW.trod_bool Try.underlying4 k6
  obtain ⟨f, v, e7, hp⟩ := trod_frame k7
  simp [Fr.c] at e0 e1 e3 e4 e5 e6 e7
  obtain ⟨rfl, rfl, rfl, rfl, rfl, rfl, rfl, rfl, rfl, rfl, rfl⟩ := e7
  subst e0 e1 e3 e4 e5 e6
  exact ⟨⟨a0, a1, a3, a4, a5, a6, f⟩, _, rfl, hp⟩
end
end Go.Proofs.Ytaakmkkgnboedaa
