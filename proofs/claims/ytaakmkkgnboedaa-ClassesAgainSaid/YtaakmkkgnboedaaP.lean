/- An entry more: what the append of 'put' leaves. -/
import Derived.Test.YtaakmkkgnboedaaMod
namespace Go.Kb
open Go.RowKit
section
variable {P : Program} {w : World} {e : TypeId} {size bytes n m : Nat} {v x : Value} {cs ds : List Value} {F G : Nat → Prop} {z : Value}
/-- The append at one operation of a region that draws its order. -/
theorem wp_append_oc {o : Oper} {a : Act} {K : Act → World → Prop} {Q : Exit → Act → World → Prop} (s y : Operand) (t : TypeId)
    (ho : o.op = .call { callee := .builtin .append, args := #[s, y], argTypes := #[t, t] })
    (ht : P.underlying t = some (.slice e)) (hinfo : (P.info? e).map (fun i => (i.zero, i.size, i.bytes)) = some (some z, size, bytes)) (hzs : z.cells.size = size) (h0 : 0 < size)
    (hs : a.eval s = v) (hy : a.eval y = x) (HO : OC w e size v n cs F) (HR : RC w size x m ds G) (h1 : ∀ u ∈ ds, u.oneCell' = true) (b1 : n + m ≤ maxLen) (b2 : (n + m) * bytes ≤ 140737488355328)
    (h : ∀ v' w', OC w' e size v' (n + m) (cs ++ ds) (fun k => F k ∨ w.heap.size ≤ k) → Upd F w w' → K (a.put o.dst v') w') : o.wp P a w K Q := by
  obtain ⟨i, hi, hzz⟩ := Option.map_eq_some_iff.1 hinfo
  simp only [Prod.mk.injEq] at hzz
  obtain ⟨hz, hsz, hby⟩ := hzz
  obtain ⟨v', w', hrun, r1, r2⟩ := run_append_oc (P := P) t o.type ht hi hz hsz hby hzs h0 HO HR h1 b1 b2
  unfold Oper.wp
  simp [execOp, ho, resolve, invoke, builtin, hs, hy, hrun, Result.andThen]
  exact h v' w' r1 r2
end
/-- The footprint is the row's own block. -/
theorem OC.own {w : World} {ty : TypeId} {sz n : Nat} {v : Value} {cs : List Value} {F : Nat → Prop} (h : OC w ty sz v n cs F) : OC w ty sz v n cs (fun k => (F k ∧ k < w.heap.size) ∧ some k = v.ownBlock) := by
  obtain ⟨h1, hm, h2 | ⟨g, off, cap, cur, hv, hn, hb, hs, hF, hc⟩⟩ := h
  · exact ⟨h1, hm, .inl h2⟩
  · exact ⟨h1, hm, .inr ⟨g, off, cap, cur, hv, hn, hb, hs, ⟨⟨hF, blk_lt hb⟩, by subst hv; rfl⟩, hc⟩⟩
/-- The footprint is of blocks of the row's type. -/
theorem OC.typed {w : World} {ty : TypeId} {sz n : Nat} {v : Value} {cs : List Value} {F : Nat → Prop} (h : OC w ty sz v n cs F) : OC w ty sz v n cs (fun k => F k ∧ ∃ cur, w.heap[k]? = some (.cells cur ty (0, 0))) := by
  obtain ⟨h1, hm, h2 | ⟨g, off, cap, cur, hv, hn, hb, hs, hF, hc⟩⟩ := h
  · exact ⟨h1, hm, .inl h2⟩
  · exact ⟨h1, hm, .inr ⟨g, off, cap, cur, hv, hn, hb, hs, ⟨hF, cur, hb⟩, hc⟩⟩
theorem OParts.typed {w : World} {ty : TypeId} {v : Value} {l : List Part} {F : Nat → Prop} (h : OParts ty w v l F) : OParts ty w v l (fun k => F k ∧ ∃ cur t, w.heap[k]? = some (.cells cur t (0, 0)) ∧ (t = ty ∨ t = 5)) := by
  obtain ⟨cs, h1, h2⟩ := h
  refine ⟨cs, h1.typed.mono fun k _ ⟨hF, cur, hk⟩ => ⟨hF, cur, ty, hk, .inl rfl⟩, h2.imp fun p c ⟨u, e, h⟩ => ⟨u, e, ?_⟩⟩
  exact (OC.typed h).mono fun k _ ⟨hF, cur, hk⟩ => ⟨hF, cur, 5, hk, .inr rfl⟩
/-- An entry more. -/
theorem OEns.push {w w1 w2 : World} {v v' pv : Value} {es : List En} {x : En} {cs : List Value} {F : Nat → Prop}
    (hE : Els 17 (REn w (Off v F)) es cs) (hu : Upd No w w1) (hp : OParts 116 w1 pv x.fr.parts (From w.heap.size))
    (hO : OC w2 45 17 v' (es.length + 1) (cs ++ x.c pv) (fun k => ((F k ∧ k < w.heap.size) ∧ some k = v.ownBlock) ∨ w1.heap.size ≤ k)) (hu2 : Upd (fun k => (F k ∧ k < w.heap.size) ∧ some k = v.ownBlock) w1 w2) :
    OEns 45 w2 v' (es ++ [x]) (fun k => F k ∨ w.heap.size ≤ k) := by
  have hsz : w.heap.size ≤ w1.heap.size := hu.size
  obtain ⟨g, off, cap, cur, rfl, hn, hb, hs, hg, hc⟩ := hO.at (by omega)
  refine ⟨cs ++ x.c pv, ?_, Els.append ?_ (Els.one rfl ⟨pv, rfl, ?_⟩)⟩
  · rw [List.length_append]
    exact hO.mono fun k _ hk => by
      rcases hk with hk | hk
      · exact .inl hk.1.1
      · exact .inr (Nat.le_trans hsz hk)
  · refine hE.imp fun _ _ h => ((((h.mono (F' := fun k => Off v F k ∧ k < w.heap.size) fun k hk h => ⟨h, hk⟩).keep hu (fun _ _ _ f => f)).keep hu2 (fun k _ hk h => hk.1.2 h.2)).mono fun k _ hk => ⟨.inl hk.1.1, ?_⟩)
    intro e
    obtain rfl : k = g := by simpa [Value.ownBlock] using e
    rcases hg with hg | hg
    · exact hk.1.2 hg.2
    · omega
  · have h1 : OParts 116 w2 pv x.fr.parts (From w.heap.size) := hp.keep hu2 (fun k _ hk h => by have h1 : w.heap.size ≤ k := hk; have := h.1.2; omega)
    refine h1.typed.r.mono fun k _ ⟨hk, cur', t, hb', ht⟩ => ⟨.inr hk, fun e => ?_⟩
    obtain rfl : k = g := by simpa [Value.ownBlock] using e
    rw [hb] at hb'
    injection hb' with hb'
    injection hb' with _ h45 _
    rcases ht with rfl | rfl <;> exact absurd h45 (by decide)
end Go.Kb
