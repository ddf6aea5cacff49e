/- A region that draws its order and ends in a forced row of operations: the head in whatever order, then the tail in the text's order. -/
import Derived.OrdersHeld
import Derived.StillTail
import Derived.Test.YtaakmkkgnboedaaBase
set_option linter.unusedVariables false
set_option linter.unusedSimpArgs false
namespace Go.Kb
open Go
section
variable {P : Program} {ops : Array Oper} {Q : Exit → Act → World → Prop}
/-- Edges and guards of the first n operations point back; the tail is forced. -/
def headB (ops : Array Oper) (n : Nat) : Bool :=
  decide (n < ops.size) && Region.sinkB .any ops n && Region.chainB .any ops n &&
  (List.range n).all (fun i => match ops[i]? with
    | some o => o.after.all (fun e => !Region.binds .any e || decide (e.on < i)) && (match o.guard with | none => true | some (j, _) => decide (j < n))
    | none => false) &&
  Region.seqB .any ops (ops.size - n) n ((Array.replicate n true) ++ Array.replicate (ops.size - n) false)
def headQ (P : Program) (ops : Array Oper) (Q : Exit → Act → World → Prop) (n : Nat) : Exit → Act → World → Prop := Exit.then (wpList P ops Q (ops.toList.drop n)) Q
theorem wpAny_more : ∀ (k : Nat) (listed : Array Bool) (a : Act) (w : World), wpAny P .any ops Q k listed a w → wpAny P .any ops Q (k + 1) listed a w
  | 0, listed, a, w, h => ⟨fun _ => h.2, (fun i hi => by rw [h.1] at hi; cases hi)⟩
  | k + 1, listed, a, w, h => ⟨h.1, fun i hi => wpOp_mono (fun a' w' h' => wpAny_more k _ a' w' h') (h.2 i hi)⟩
theorem wpAny_mores (m : Nat) : ∀ (k : Nat) (listed : Array Bool) (a : Act) (w : World), wpAny P .any ops Q k listed a w → wpAny P .any ops Q (k + m) listed a w := by
  induction m with
  | zero => intro k _ _ _ h; exact h
  | succ m ih => intro k l a w h; exact wpAny_more _ _ _ _ (ih k l a w h)
theorem Oper.upon_then {o : Oper} {a : Act} {K N : Act → World → Prop} {r : Result Next} (h : o.upon P a K (Exit.then N Q) r) : o.upon P a K Q r := by
  cases r with
  | ok x w => cases x <;> exact h
  | halt x w => cases x <;> exact h
theorem wpOp_head {n i : Nat} {N K : Act → World → Prop} {a : Act} {w : World} (hi : i < n)
    (hg : ∀ o, ops[i]? = some o → ∀ j b, o.guard = some (j, b) → j < n) (h : wpOp P (ops.toList.take n).toArray (Exit.then N Q) i K a w) : wpOp P ops Q i K a w := by
  have e : ∀ j, j < n → (ops.toList.take n).toArray[j]? = ops[j]? := fun j hj => by simp [hj]
  unfold wpOp at *
  rw [e i hi] at h
  cases ho : ops[i]? with
  | none => rw [ho] at h; exact h
  | some o =>
    rw [ho] at h
    have hy : Region.wanted o (yielded (ops.toList.take n).toArray a.tmps) = Region.wanted o (yielded ops a.tmps) := by
      unfold Region.wanted
      cases hgo : o.guard with
      | none => rfl
      | some p =>
        obtain ⟨j, b⟩ := p
        have := hg o ho j b hgo
        simp only [yielded, e j this]
    simp only at h ⊢
    rw [hy] at h
    split
    · rename_i hw
      rw [if_pos hw] at h
      rcases h with h | ⟨h1, a0, w0, h2⟩
      · exact .inl (Oper.upon_then h)
      · exact .inr ⟨h1, a0, w0, h2⟩
    · rename_i hw
      rw [if_neg hw] at h
      exact h
theorem wpAny_headTail {n : Nat} (hB : headB ops n = true) : ∀ (f : Nat) (lh listed : Array Bool) (a : Act) (w : World), lh.size = n → HeadInv .any ops n listed → (∀ j, j < n → lh[j]? = listed[j]?) →
    wpAny P .any (ops.toList.take n).toArray (headQ P ops Q n) f lh a w → wpAny P .any ops Q (f + (ops.size - n)) listed a w := by
  unfold headB at hB
  simp only [Bool.and_eq_true, decide_eq_true_eq] at hB
  obtain ⟨⟨⟨⟨hn, hs⟩, hc⟩, hacc⟩, hseq⟩ := hB
  have hlen : (ops.toList.take n).length = n := by simp; omega
  have e : ∀ j, j < n → (ops.toList.take n).toArray[j]? = ops[j]? := fun j hj => by simp [hj]
  have hsz : (ops.toList.take n).toArray.size = n := by simpa using hlen
  have hop : ∀ i, i < n → ∃ o, ops[i]? = some o ∧ (∀ x ∈ o.after, Region.binds .any x = true → x.on < i) ∧ ∀ j b, o.guard = some (j, b) → j < n := by
    intro i hi
    have h := List.all_eq_true.1 hacc i (List.mem_range.2 hi)
    cases ho : ops[i]? with
    | none => rw [ho] at h; cases h
    | some o =>
      rw [ho] at h
      simp only [Bool.and_eq_true] at h
      refine ⟨o, rfl, fun x hx hb => ?_, fun j b hg => ?_⟩
      · have := (Array.all_eq_true'.1 h.1) x hx
        simpa [hb] using this
      · have := h.2
        rw [hg] at this
        simpa using this
  have hgd : ∀ (lh listed : Array Bool) (d : Bool) j, j < n → lh[j]? = listed[j]? → lh.getD j d = listed.getD j d := by
    intro lh listed d j _ h
    simp only [Array.getD_eq_getD_getElem?, h]
  -- ready in the head
  have hready : ∀ (lh listed : Array Bool), lh.size = n → (∀ j, j < n → lh[j]? = listed[j]?) → ∀ i, i < n → (i ∈ Region.ready .any (ops.toList.take n).toArray lh ↔ i ∈ Region.ready .any ops listed) := by
    intro lh listed hl hsame i hi
    obtain ⟨o, ho, hback, _⟩ := hop i hi
    rw [mem_ready, mem_ready, e i hi, ho, hgd lh listed true i hi (hsame i hi)]
    refine and_congr_right fun _ => ?_
    constructor
    · rintro ⟨o', ho', h⟩
      cases ho'
      exact ⟨o, rfl, fun x hx hb => by rw [← hgd lh listed false x.on (by have := hback x hx hb; omega) (hsame _ (by have := hback x hx hb; omega))]; exact h x hx hb⟩
    · rintro ⟨o', ho', h⟩
      cases ho'
      exact ⟨o, rfl, fun x hx hb => by rw [hgd lh listed false x.on (by have := hback x hx hb; omega) (hsame _ (by have := hback x hx hb; omega))]; exact h x hx hb⟩
  have hlt : ∀ (lh : Array Bool) i, i ∈ Region.ready .any (ops.toList.take n).toArray lh → i < n := by
    intro lh i hi
    obtain ⟨_, o, ho, _⟩ := mem_ready.1 hi
    have := (Array.getElem?_eq_some_iff.1 ho).1
    omega
  -- if nothing of the head is ready, all of it is listed
  have hdone : ∀ (lh : Array Bool), lh.size = n → Region.ready .any (ops.toList.take n).toArray lh = [] → ∀ i, i < n → lh[i]? = some true := by
    intro lh hl hr i
    induction i using Nat.strongRecOn with
    | _ i ih =>
      intro hi
      cases hb : lh[i]? with
      | none => simp at hb; omega
      | some b =>
        cases b with
        | true => rfl
        | false =>
          obtain ⟨o, ho, hback, _⟩ := hop i hi
          have : i ∈ Region.ready .any (ops.toList.take n).toArray lh := mem_ready.2 ⟨by simp [Array.getD_eq_getD_getElem?, hb], o, by rw [e i hi]; exact ho, fun x hx hbd => by
            have hx' := hback x hx hbd
            have := ih x.on hx' (by omega)
            simp [Array.getD_eq_getD_getElem?, this]⟩
          rw [hr] at this
          cases this
  -- the tail
  have htail : ∀ (lh listed : Array Bool) (a : Act) (w : World), lh.size = n → HeadInv .any ops n listed → (∀ j, j < n → lh[j]? = listed[j]?) → Region.ready .any (ops.toList.take n).toArray lh = [] → wpList P ops Q (ops.toList.drop n) a w →
      wpAny P .any ops Q (ops.size - n) listed a w := by
    intro lh listed a w hl inv hsame hr h
    have hlisted : listed = (Array.replicate n true) ++ Array.replicate (ops.size - n) false := by
      apply Array.ext_getElem?
      intro j
      by_cases hj : j < n
      · rw [← hsame j hj, hdone lh hl hr j hj, Array.getElem?_append_left (by simpa using hj)]
        simp [hj]
      · rw [Array.getElem?_append_right (by simp; omega)]
        by_cases hj2 : j < ops.size
        · have := inv.tail j (by omega) hj2
          have hjs : j < listed.size := by rw [inv.size]; exact hj2
          simp [Array.getD_eq_getD_getElem?, hjs] at this
          simp [hjs, this, show j - n < ops.size - n by omega]
        · have hjs : listed.size ≤ j := by rw [inv.size]; omega
          simp [hjs, show ops.size - n ≤ j - n by omega]
    subst hlisted
    have := wpAny_of_seq (P := P) (md := .any) (ops := ops) (Q' := Q) (ops.toList.drop n) n _ a w (fun j => by simp) (by simpa using hseq) h
    simpa using this
  intro f
  induction f with
  | zero =>
    intro lh listed a w hl inv hsame h
    rw [Nat.zero_add]
    exact htail lh listed a w hl inv hsame h.1 h.2
  | succ f ih =>
    intro lh listed a w hl inv hsame h
    by_cases hr : Region.ready .any (ops.toList.take n).toArray lh = []
    · have := wpAny_mores (f + 1) _ _ _ _ (htail lh listed a w hl inv hsame hr (h.1 hr))
      rwa [Nat.add_comm] at this
    · obtain ⟨i0, hi0⟩ := List.exists_mem_of_ne_nil _ hr
      have hi0n := hlt lh i0 hi0
      rw [show f + 1 + (ops.size - n) = (f + (ops.size - n)) + 1 by omega]
      have h0 := (hready lh listed hl hsame i0 hi0n).1 hi0
      refine ⟨(fun hno => by rw [hno] at h0; cases h0), fun i hi => ?_⟩
      have hin : i < n := by
        rcases Nat.lt_or_ge i n with h | h
        · exact h
        · exact absurd hi (tail_waits hs hc hn inv _ i0 rfl hi0n (mem_ready.1 h0).1 i h)
      have hih := (hready lh listed hl hsame i hin).2 hi
      obtain ⟨o, ho, _, hgo⟩ := hop i hin
      refine wpOp_mono (fun a' w' h' => ?_) (wpOp_head hin (fun o' ho' j b hg => by rw [ho] at ho'; cases ho'; exact hgo j b hg) (h.2 i hih))
      refine ih (lh.setIfInBounds i true) (listed.setIfInBounds i true) a' w' (by simpa using hl) (inv.set hi hin) (fun j hj => ?_) h'
      by_cases hij : i = j
      · subst hij
        have : i < listed.size := by rw [inv.size]; omega
        simp [show i < lh.size by omega, this]
      · simp [Array.getElem?_setIfInBounds, hij, hsame j hj]
/-- THE LAW: 'S' is held while the head is done; then the tail, in the text's order. -/
theorem wp_region_head {id : Nat} (n : Nat) {S : World → Prop} {a : Act} {w : World} (hB : headB ops n = true) (hm : P.follows .mixedOrders = true)
    (h : wpAnyH P .any (ops.toList.take n).toArray (headQ P ops Q n) S n (Array.replicate n false) a w.drew) : (Code.region id ops true).wp P Q a w := by
  refine wp_region_any hm ?_
  have hn : n < ops.size := by unfold headB at hB; simp only [Bool.and_eq_true, decide_eq_true_eq] at hB; exact hB.1.1.1.1
  have h1 := wpAny_of_held _ _ _ _ h
  have h2 := wpAny_headTail hB n (Array.replicate n false) (Array.replicate ops.size false) a w.drew (by simp) ⟨by simp, (fun j oj _ hl => by rw [getD_replicate_false] at hl; cases hl), (fun t _ ht => by simp [ht])⟩ (fun j hj => by simp [hj, show j < ops.size by omega]) h1
  rw [show n + (ops.size - n) = ops.size by omega] at h2
  exact h2

variable {S : World → Prop} {md : Region.Mode}
/-- Number i is taken first: it yields v in every world that meets S. (Its text comes by 'intro o ho; simp only [..] at ho; subst ho'.) -/
theorem take_at (i : Nat) {fuel : Nat} {listed : Array Bool} {a : Act} {w : World} (hs : Region.noSelect ops = true) (hf : Region.free md ops listed i = true) (hr : (Region.ready md ops listed).contains i = true)
    (hS : S w)
    (h : ∀ o, ops[i]? = some o → ∃ v, YieldsIf P ops S o v a ∧ (∀ c a w, Q (.panic c) (a.put o.dst v) w → Q (.panic c) a w) ∧ wpAnyH P md ops Q S fuel (listed.setIfInBounds i true) (a.put o.dst v) w) : wpAnyH P md ops Q S (fuel + 1) listed a w := by
  have hmem : i ∈ Region.ready md ops listed := by simpa using hr
  obtain ⟨_, o, ho, _⟩ := mem_ready.1 hmem
  obtain ⟨v, hy, hQ, hk⟩ := h o ho
  exact wpAnyH_take ho hs hf hr hQ hy hS hk
/-- Those that may come up next, each carried out. -/
theorem do_at (rs : List Nat) {fuel : Nat} {listed : Array Bool} {a : Act} {w : World} (hr : Region.ready md ops listed = rs) (hne : rs ≠ [])
    (h : ∀ i ∈ rs, ∀ o, ops[i]? = some o → ∀ K : Act → World → Prop, (∀ a' w', S w' → wpAnyH P md ops Q S fuel (listed.setIfInBounds i true) a' w' → K a' w') → if Region.wanted o (yielded ops a.tmps) then o.wp P a w K Q else K (a.put o.dst undef) w) :
    wpAnyH P md ops Q S (fuel + 1) listed a w := by
  refine wpAnyH_all hr hne (fun i hi => ?_)
  rw [← hr] at hi
  obtain ⟨_, o, ho, _⟩ := mem_ready.1 hi
  unfold wpOp
  rw [ho]
  have := h i (hr ▸ hi) o ho (fun a' w' => S w' ∧ wpAnyH P md ops Q S fuel (listed.setIfInBounds i true) a' w') (fun a' w' hS hk => ⟨hS, hk⟩)
  simp only
  split
  · rename_i hw; rw [if_pos hw] at this; exact .inl this
  · rename_i hw; rw [if_neg hw] at this; exact this
/-- The one that may come up next. -/
theorem do_one (i : Nat) {fuel : Nat} {listed : Array Bool} {a : Act} {w : World} (hr : Region.ready md ops listed = [i])
    (h : ∀ o, ops[i]? = some o → ∀ K : Act → World → Prop, (∀ a' w', S w' → wpAnyH P md ops Q S fuel (listed.setIfInBounds i true) a' w' → K a' w') → if Region.wanted o (yielded ops a.tmps) then o.wp P a w K Q else K (a.put o.dst undef) w) :
    wpAnyH P md ops Q S (fuel + 1) listed a w := do_at [i] hr (by simp) (fun j hj o ho => by simp at hj; subst hj; exact h o ho)
theorem headQ_normal {n : Nat} {a : Act} {w : World} (h : wpList P ops Q (ops.toList.drop n) a w) : headQ P ops Q n .normal a w := h
theorem take_mk {i fuel : Nat} {listed : Array Bool} {o : Oper} {a : Act} {w : World} {v : Value} (h1 : ∀ w, S w → (execOp a.eval o).run P w = .ok (.value v) w) (hw : Region.wanted o (yielded ops a.tmps) = true)
    (hQ : ∀ c a w, Q (.panic c) (a.put o.dst v) w → Q (.panic c) a w) (h : wpAnyH P md ops Q S fuel (listed.setIfInBounds i true) (a.put o.dst v) w) :
    ∃ v, YieldsIf P ops S o v a ∧ (∀ c a w, Q (.panic c) (a.put o.dst v) w → Q (.panic c) a w) ∧ wpAnyH P md ops Q S fuel (listed.setIfInBounds i true) (a.put o.dst v) w := ⟨v, .inl ⟨hw, h1⟩, hQ, h⟩
theorem run_load_agg (ty : TypeId) (x : Operand) {o : Oper} {a : Act} {w : World} (ho : o.op = .load ty x) (g off : Nat) (hx : a.eval x = .pointer (some ⟨g, off, none⟩)) (cs : List Value) (d : TypeDesc)
    (hu : P.underlying ty = some d) (hd : (match d with | .struct _ | .array _ _ => true | _ => false) = true) (hi : (P.info? ty).map (·.size) = some cs.length)
    (hc : ∀ j u, cs[j]? = some u → w.cell? ⟨g, off + j, none⟩ = some u) : (execOp a.eval o).run P w = .ok (.value (.agg cs.toArray)) w := by
  unfold execOp
  simp only [ho, hx, Instr.loadAt, Instr.sureAddr, Sem.run_bind, Sem.run_pure, Result.andThen_ok, run_loadVar_agg ty g off cs d hu hd hi hc]
theorem if_take {c p q : Prop} [Decidable c] (hc : c) (h : p) : if c then p else q := by rw [if_pos hc]; exact h
theorem wp_of_list {o : Oper} {a : Act} {w : World} {K : Act → World → Prop} (hg : o.guard = none) (h : ∀ K' : Act → World → Prop, (∀ a w, K a w → K' a w) → o.wp P a w K' Q) : if Region.wanted o (yielded ops a.tmps) then o.wp P a w K Q else K (a.put o.dst undef) w := by
  rw [if_pos (by simp [Region.wanted, hg])]
  exact h K (fun _ _ h => h)
end
end Go.Kb
