/- Contract of layer 19: an entry more. (Its walk is printed by wip/tools/c57.py.) -/
import Derived.Test.YtaakmkkgnboedaaF
import Derived.Test.YtaakmkkgnboedaaH
import Derived.Test.YtaakmkkgnboedaaP
import Derived.Test.YtaakmkkgnboedaaTail
namespace Go.Proofs.Ytaakmkkgnboedaa
open Go Go.RowKit Go.Kb
def pushL (s : Q) (x : En) : Q := { s with es := settleL (s.es ++ [x]) s.es.length }
def putL (s : Q) (x : En) : Q × Int :=
  let s1 := pushL s x
  if (framesL s1.es : Int) > s1.most then
    match s1.es[(victimL s1).toNat]? with
    | some y => if victimL s1 < 0 then (s1, 0) else ({ s1 with es := settleL (s1.es.set (victimL s1).toNat (noteE y)) (victimL s1).toNat }, 1)
    | none => (s1, 0)
  else (s1, 0)
theorem victimL_lt (s : Q) : victimL s < s.es.length ∧ -1 ≤ victimL s := by
  unfold victimL
  have := lastOf_ge (fun i => decide (keptL s < i) && freshI s i) s.es.length
  split <;> omega
theorem putL_few {s s1 : Q} {x : En} (hs : s1 = pushL s x) (h : ¬ s.most < ((framesL s1.es : Nat) : Int)) : putL s x = (s1, 0) := by
  subst hs
  unfold putL
  exact if_neg h
theorem putL_none {s s1 : Q} {x : En} (hs : s1 = pushL s x) (h : s.most < ((framesL s1.es : Nat) : Int)) (hv : victimL s1 < 0) : putL s x = (s1, 0) := by
  subst hs
  unfold putL
  refine (if_pos h).trans ?_
  cases hy : (pushL s x).es[(victimL (pushL s x)).toNat]? with
  | none => rfl
  | some y => exact if_pos hv
theorem putL_one {s s1 : Q} {x y : En} {i : Nat} (hs : s1 = pushL s x) (h : s.most < ((framesL s1.es : Nat) : Int)) (hv : victimL s1 = i) (hy : s1.es[i]? = some y) : putL s x = ({ s1 with es := settleL (s1.es.set i (noteE y)) i }, 1) := by
  subst hs
  unfold putL
  refine (if_pos h).trans ?_
  rw [hv]
  simp only [Int.toNat_natCast, hy]
  exact if_neg (by omega)
theorem noteE_one (y : En) : ∀ u ∈ (noteE y).c (.slice none 0 0), u.oneCell' = true := (RParts.nil (default : World) none No).one (x := noteE y)
theorem set_q {w9 : World} {b g off cap i : Nat} {s : Q} {y : En} {F : Nat → Prop} {cs3 : List Value} {v : Value} (hF : F b) (hb : w9.heap[b]? = some (.cells #[.int .i64 s.most, .bool s.careful, .bool s.begun, .slice (some ⟨g, off, none⟩) s.es.length cap] 108 (0, 0))) (hgb : g ≠ b)
    (hO : OC (w9.setCells g (off + i * 17) (y.c v)) 45 17 (.slice (some ⟨g, off, none⟩) s.es.length cap) s.es.length cs3 (fun k => F k ∧ k ≠ b))
    (hE : Els 17 (REn (w9.setCells g (off + i * 17) (y.c v)) (Off (.slice (some ⟨g, off, none⟩) s.es.length cap) (fun k => F k ∧ k ≠ b))) (s.es.set i y) cs3) :
    QRep (w9.setCells g (off + i * 17) (y.c v)) b { s with es := s.es.set i y } F :=
  ⟨hF, _, (Upd.setsO w9 g _ _).blk hb (fun e => hgb e.symm), cs3, by simpa using hO, hE⟩
theorem settleL_le (l : List En) (i : Nat) : (settleL l i).length ≤ l.length := by
  unfold settleL
  have h1 := joinAt_length l (i + 1)
  have h2 := joinAt_length (joinAt l (i + 1)) i
  omega
theorem push_q {w w3 : World} {b : Nat} {s : Q} {F : Nat → Prop} {l : List En} {v' v : Value} (hF : F b) (hb : w3.heap[b]? = some (.cells #[.int .i64 s.most, .bool s.careful, .bool s.begun, v'] 108 (0, 0)))
    (h : OEns 45 w3 v l (fun k => (F k ∧ k ≠ b) ∨ w.heap.size ≤ k)) (hl : b < w.heap.size) : QRep (w3.setCell ⟨b, 3, none⟩ v) b { s with es := l } (fun k => F k ∨ w.heap.size ≤ k) := by
  refine ⟨.inl hF, v, by rw [blk_setCell hb]; rfl, (h.keep (Upd.set1 w3 b 3 v) (fun k _ hk e => ?_)).mono fun k _ hk => ?_⟩
  · have : k = b := e
    rcases hk with hk | hk
    · exact hk.2 this
    · omega
  · rcases hk with hk | hk
    · exact ⟨.inl hk.1, hk.2⟩
    · exact ⟨.inr hk, by omega⟩
set_option linter.unusedSimpArgs false in
set_option maxRecDepth 100000 in
set_option maxHeartbeats 1600000 in
theorem c57 (w : World) (b : Nat) (s : Q) (F G : Nat → Prop) (x : En) (u : Value) (h : QRep w b s F) (hf : Fits (s.es.length + 1)) (hx : RParts w u x.fr.parts G) (hsm : Small x) :
    Calls Try.prog 57 #[.pointer (some ⟨b, 0, none⟩), .agg (x.c u).toArray] w (Gives fun r w' => r = .int .i64 (putL s x).2 ∧ QRep w' b (putL s x).1 (fun k => F k ∨ w.heap.size ≤ k) ∧ Upd F w w') := by
  obtain ⟨hF, v, hb, cs, hO, hE⟩ := h
  obtain ⟨a0, cap0, rfl, -⟩ := hO.slice
  have H1 : Hid (∀ u ∈ cs, u.oneCell' = true) := hE.all fun _ _ h => h.one
  have hb' := blk_alloc hb (.cells (x.c u).toArray 45)
  have kb3 : (w.alloc (.cells (x.c u).toArray 45)).cell? ⟨b, 3, none⟩ = some (.slice a0 s.es.length cap0) := cell_of_blk hb' 3
  have hN := blk_new w (.cells (x.c u).toArray 45)
  have hm1 : s.es.length + 1 ≤ maxLen := by have := hf.maxLen; omega
  have hm2 : (s.es.length + 1) * 72 ≤ 140737488355328 := by have := hf.mul 72 (by decide); omega
  have nb : ¬ (fun k => F k ∧ k ≠ b) b := fun h => h.2 rfl
  go_enter Try.func57, Try.ntmps57
  go_wp2_with fail
  refine wp_region_head 9 (S := Upd (fun k => ((F k ∧ k ≠ b) ∧ k < w.heap.size) ∧ some k = (Value.slice a0 s.es.length cap0).ownBlock) (w.alloc (.cells (x.c u).toArray 45))) (by kernel_rfl) follows ?_
  have hS0 : Upd (fun k => ((F k ∧ k ≠ b) ∧ k < w.heap.size) ∧ some k = (Value.slice a0 s.es.length cap0).ownBlock) (w.alloc (.cells (x.c u).toArray 45)) (w.alloc (.cells (x.c u).toArray 45)).drew := (Upd.refl _ _).drew
  refine take_at 0 (by kernel_rfl) (by kernel_rfl) (by kernel_rfl) hS0 ?_
  intro o ho; simp only [List.take_succ_cons, List.take_zero, List.getElem?_toArray, List.getElem?_cons_succ, List.getElem?_cons_zero, Option.some.injEq] at ho; subst ho
  refine take_mk (v := ?_) (fun w' hS => ?_) rfl ?_ ?_; rotate_left
  · (go_simp; (try with_reducible rfl))
  · exact fun _ _ _ h => h
  simp only [Act.put, List.setIfInBounds_toArray, List.set_cons_zero, List.set_cons_succ]
  refine take_at 1 (by kernel_rfl) (by kernel_rfl) (by kernel_rfl) hS0 ?_
  intro o ho; simp only [List.take_succ_cons, List.take_zero, List.getElem?_toArray, List.getElem?_cons_succ, List.getElem?_cons_zero, Option.some.injEq] at ho; subst ho
  refine take_mk (v := ?_) (fun w' hS => ?_) rfl ?_ ?_; rotate_left
  · (go_simp; (try with_reducible rfl))
  · exact fun _ _ _ h => h
  simp only [Act.put, List.setIfInBounds_toArray, List.set_cons_zero, List.set_cons_succ]
  refine take_at 2 (by kernel_rfl) (by kernel_rfl) (by kernel_rfl) hS0 ?_
  intro o ho; simp only [List.take_succ_cons, List.take_zero, List.getElem?_toArray, List.getElem?_cons_succ, List.getElem?_cons_zero, Option.some.injEq] at ho; subst ho
  refine take_mk (v := ?_) (fun w' hS => ?_) rfl ?_ ?_; rotate_left
  · (go_simp; (try with_reducible rfl))
  · exact fun _ _ _ h => h
  simp only [Act.put, List.setIfInBounds_toArray, List.set_cons_zero, List.set_cons_succ]
  refine take_at 3 (by kernel_rfl) (by kernel_rfl) (by kernel_rfl) hS0 ?_
  intro o ho; simp only [List.take_succ_cons, List.take_zero, List.getElem?_toArray, List.getElem?_cons_succ, List.getElem?_cons_zero, Option.some.injEq] at ho; subst ho
  refine take_mk (v := ?_) (fun w' hS => ?_) rfl ?_ ?_; rotate_left
  · (go_simp; (try with_reducible rfl))
  · exact fun _ _ _ h => h
  simp only [Act.put, List.setIfInBounds_toArray, List.set_cons_zero, List.set_cons_succ]
  refine take_at 4 (by kernel_rfl) (by kernel_rfl) (by kernel_rfl) hS0 ?_
  intro o ho; simp only [List.take_succ_cons, List.take_zero, List.getElem?_toArray, List.getElem?_cons_succ, List.getElem?_cons_zero, Option.some.injEq] at ho; subst ho
  refine take_mk (v := ?_) (fun w' hS => ?_) rfl ?_ ?_; rotate_left
  · (have h3 := hS.cellS kb3 (fun h => h.1.1.2 rfl); go_simp; (try with_reducible rfl))
  · exact fun _ _ _ h => h
  simp only [Act.put, List.setIfInBounds_toArray, List.set_cons_zero, List.set_cons_succ]
  refine take_at 5 (by kernel_rfl) (by kernel_rfl) (by kernel_rfl) hS0 ?_
  intro o ho; simp only [List.take_succ_cons, List.take_zero, List.getElem?_toArray, List.getElem?_cons_succ, List.getElem?_cons_zero, Option.some.injEq] at ho; subst ho
  refine take_mk (v := .agg (x.c u).toArray) (fun w' hS => ?_) rfl ?_ ?_
  · exact run_load_agg 45 (.tmp 3) rfl (w.heap.size) (0) rfl (x.c u) _ Try.underlying45 rfl (by kernel_rfl) (all_cells (hS.blk hN (fun h => Nat.lt_irrefl _ h.1.2)))
  · exact fun _ _ _ h => h
  simp only [Act.put, List.setIfInBounds_toArray, List.set_cons_zero, List.set_cons_succ]
  refine do_one 6 (by kernel_rfl) ?_
  intro o ho; simp only [List.take_succ_cons, List.take_zero, List.getElem?_toArray, List.getElem?_cons_succ, List.getElem?_cons_zero, Option.some.injEq] at ho; subst ho; intro K hK; refine if_take (by rfl) ?_
  go_wp2_with (first | (go_at_call 58; refine (c58 _ u x _ (hx.bound.keep (((Upd.refl No _).alloc _).drew) (fun _ _ _ f => f)) hsm.1 hsm.2).mono ?_; rintro e w1 ⟨r, rfl, u1, rfl, ho, hu⟩))
  have hu0 : Upd No w w1 := (((Upd.refl No _).alloc _).drew).then0 hu
  have hu1 : Upd (fun k => ((F k ∧ k ≠ b) ∧ k < w.heap.size) ∧ some k = (Value.slice a0 s.es.length cap0).ownBlock) (w.alloc (.cells (x.c u).toArray 45)) w1 := hS0.then0 hu
  have ho1 : OParts 116 w1 u1 x.fr.parts (From w.heap.size) := ho.mono (fun k _ hk => Nat.le_trans (by simp) hk)
  refine hK _ _ hu1 ?_
  clear hK K ho
  refine do_one 7 (by kernel_rfl) ?_
  intro o ho; simp only [List.take_succ_cons, List.take_zero, List.getElem?_toArray, List.getElem?_cons_succ, List.getElem?_cons_zero, Option.some.injEq] at ho; subst ho; intro K hK; refine if_take (by rfl) ?_
  go_simp
  simp only [En.c, List.length_cons, List.length_nil, List.zipIdx_cons, List.zipIdx_nil, List.foldl_cons, List.foldl_nil, List.setIfInBounds_toArray, List.set_cons_zero, List.set_cons_succ]
  go_simp
  obtain ⟨w2, hw2⟩ : ∃ w2, w2 = w1.alloc (.cells (x.c u1).toArray 45) := ⟨_, rfl⟩
  have R2 : RC w2 17 (.slice (some ⟨w1.heap.size, 0, none⟩) 1 1) 1 (x.c u1) (Only w1.heap.size) := by subst hw2; exact RC.new w1 17 (x.c u1) 45 1 rfl (by decide)
  have U2 : Upd No w w2 := by subst hw2; exact hu0.alloc _
  have V2 : Upd (fun k => ((F k ∧ k ≠ b) ∧ k < w.heap.size) ∧ some k = (Value.slice a0 s.es.length cap0).ownBlock) (w.alloc (.cells (x.c u).toArray 45)) w2 := by subst hw2; exact hu1.alloc _
  have P2 : OParts 116 w2 u1 x.fr.parts (From w.heap.size) := by subst hw2; exact ho1.keep ((Upd.refl No _).alloc _) (fun _ _ _ f => f)
  show K _ (w1.alloc (.cells (x.c u1).toArray 45))
  rw [← hw2]
  refine hK _ _ V2 ?_
  clear hK K hw2
  refine do_one 8 (by kernel_rfl) ?_
  intro o ho; simp only [List.take_succ_cons, List.take_zero, List.getElem?_toArray, List.getElem?_cons_succ, List.getElem?_cons_zero, Option.some.injEq] at ho; subst ho; intro K hK; refine if_take (by rfl) ?_
  refine wp_append_oc (.tmp 10) (.tmp 13) 73 rfl Try.underlying73 info45 rfl (by decide) rfl rfl (hO.own.keep U2 (fun _ _ _ f => f)) R2 (fun q hq => P2.r.one q hq) hm1 hm2 ?_
  intro v3 w3 h3 u3
  have E3 : OEns 45 w3 v3 (s.es ++ [x]) (fun k => (F k ∧ k ≠ b) ∨ w.heap.size ≤ k) := OEns.push hE U2 P2 h3 u3
  obtain ⟨a3, cap3, rfl⟩ := E3.slice
  have U3 : Upd F w w3 := (U2.mono (fun _ _ f => f.elim)).trans u3 (fun k _ h => h.1.1.1)
  have B3 : w3.heap[b]? = _ := u3.blk (U2.blk hb (fun f => f)) (fun h => h.1.1.2 rfl)
  refine hK _ _ (V2.trans u3 (fun k _ h => h)) ?_
  clear hK K
  have Q4 : QRep (w3.setCell ⟨b, 3, none⟩ (.slice a3 (s.es ++ [x]).length cap3)) b { s with es := s.es ++ [x] } (fun k => F k ∨ w.heap.size ≤ k) := push_q hF B3 E3 (blk_lt hb)
  have U4 : Upd F w (w3.setCell ⟨b, 3, none⟩ (.slice a3 (s.es ++ [x]).length cap3)) := U3.setCell (p := ⟨b, 3, none⟩) (fun _ => hF) _
  obtain ⟨kb, kbf⟩ := blk_walk B3
  have HX := Lib.hid (And.intro Q4 U4)
  clear Q4 U4 B3 E3 U3 u3 h3 V2 P2 U2 R2 hu0 hu1 ho1 hu hS0 hE hO hb hb' hN kb3 H1 hx
  refine wpAnyH_done (by kernel_rfl) (headQ_normal ?_) _
  simp only [Act.put, List.drop_succ_cons, List.drop_zero]
  simp only [List.length_append, List.length_cons, List.length_nil] at HX ⊢
  go_wp2_with fail
  generalize Value.agg _ = q1
  generalize Value.agg _ = q2
  refine (c68 _ b { s with es := s.es ++ [x] } _ HX.out.1 (by simpa using hf) s.es.length (by simp)).mono ?_
  rintro e w5 ⟨r, rfl, rfl, Q5, u5⟩
  have U5 : Hid (Upd F w w5) := Lib.hid (HX.out.2.trans u5 (fun k hk h => h.resolve_right (by omega)))
  obtain ⟨s1, hs1⟩ : ∃ s1, s1 = pushL s x := ⟨_, rfl⟩
  have Q5' : Hid (QRep w5 b s1 (fun k => F k ∨ w.heap.size ≤ k)) := by rw [hs1]; exact Q5
  have M1 : Hid (s1.most = s.most) := by rw [hs1]; exact Lib.hid rfl
  have L1 : Hid (Fits s1.es.length) := by rw [hs1]; have h2 := settleL_le (s.es ++ [x]) s.es.length; have h3 : s.es.length + 1 ≤ 60000 := hf; rw [List.length_append] at h2; exact (show _ ≤ 60000 from Nat.le_trans h2 h3)
  have HS := Lib.hid hs1
  clear hs1 Q5 u5 HX kb kbf
  obtain ⟨-, v5, B5, -⟩ := Q5'.out
  rw [M1.out] at B5
  have kb0 := cell_of_blk B5 0
  clear B5
  go_wp2_with fail
  refine wp_region_head 6 (S := Upd No w5) (by kernel_rfl) follows ?_
  have hS0 : Upd No w5 w5.drew := (Upd.refl _ _).drew
  refine take_at 0 (by kernel_rfl) (by kernel_rfl) (by kernel_rfl) hS0 ?_
  intro o ho; simp only [List.take_succ_cons, List.take_zero, List.getElem?_toArray, List.getElem?_cons_succ, List.getElem?_cons_zero, Option.some.injEq] at ho; subst ho
  refine take_mk (v := ?_) (fun w' hS => ?_) rfl ?_ ?_; rotate_left
  · (go_simp; (try with_reducible rfl))
  · exact fun _ _ _ h => h
  simp only [Act.put, List.setIfInBounds_toArray, List.set_cons_zero, List.set_cons_succ]
  refine take_at 1 (by kernel_rfl) (by kernel_rfl) (by kernel_rfl) hS0 ?_
  intro o ho; simp only [List.take_succ_cons, List.take_zero, List.getElem?_toArray, List.getElem?_cons_succ, List.getElem?_cons_zero, Option.some.injEq] at ho; subst ho
  refine take_mk (v := ?_) (fun w' hS => ?_) rfl ?_ ?_; rotate_left
  · (go_simp; (try with_reducible rfl))
  · exact fun _ _ _ h => h
  simp only [Act.put, List.setIfInBounds_toArray, List.set_cons_zero, List.set_cons_succ]
  refine take_at 2 (by kernel_rfl) (by kernel_rfl) (by kernel_rfl) hS0 ?_
  intro o ho; simp only [List.take_succ_cons, List.take_zero, List.getElem?_toArray, List.getElem?_cons_succ, List.getElem?_cons_zero, Option.some.injEq] at ho; subst ho
  refine take_mk (v := ?_) (fun w' hS => ?_) rfl ?_ ?_; rotate_left
  · (go_simp; (try with_reducible rfl))
  · exact fun _ _ _ h => h
  simp only [Act.put, List.setIfInBounds_toArray, List.set_cons_zero, List.set_cons_succ]
  refine take_at 3 (by kernel_rfl) (by kernel_rfl) (by kernel_rfl) hS0 ?_
  intro o ho; simp only [List.take_succ_cons, List.take_zero, List.getElem?_toArray, List.getElem?_cons_succ, List.getElem?_cons_zero, Option.some.injEq] at ho; subst ho
  refine take_mk (v := .agg ([.int .i64 s.most]).toArray) (fun w' hS => ?_) rfl ?_ ?_
  · exact run_load_agg 106 (.tmp 27) rfl (b) (0) rfl ([.int .i64 s.most]) _ Try.underlying106 rfl (by kernel_rfl) (fun j q hj => by cases j with | zero => (obtain rfl := Option.some.inj hj; exact hS.cell0 kb0) | succ j => cases hj)
  · exact fun _ _ _ h => h
  simp only [Act.put, List.setIfInBounds_toArray, List.set_cons_zero, List.set_cons_succ]
  refine take_at 4 (by kernel_rfl) (by kernel_rfl) (by kernel_rfl) hS0 ?_
  intro o ho; simp only [List.take_succ_cons, List.take_zero, List.getElem?_toArray, List.getElem?_cons_succ, List.getElem?_cons_zero, Option.some.injEq] at ho; subst ho
  refine take_mk (v := ?_) (fun w' hS => ?_) rfl ?_ ?_; rotate_left
  · (go_simp; (try with_reducible rfl))
  · exact fun _ _ _ h => h
  simp only [Act.put, List.setIfInBounds_toArray, List.set_cons_zero, List.set_cons_succ]
  refine do_one 5 (by kernel_rfl) ?_
  intro o ho; simp only [List.take_succ_cons, List.take_zero, List.getElem?_toArray, List.getElem?_cons_succ, List.getElem?_cons_zero, Option.some.injEq] at ho; subst ho; intro K hK; refine if_take (by rfl) ?_
  go_wp2_with (first | (go_at_call 25; refine (c25 _ _ _ _ (Q5'.out.keep hS0 (fun _ _ _ f => f)) L1.out).mono ?_; rintro e w6 ⟨rfl, u6⟩))
  have U6 : Hid (Upd No w5 w6) := Lib.hid (hS0.then0 u6)
  refine hK _ _ U6.out ?_
  clear hK K u6 hS0
  refine wpAnyH_done (by kernel_rfl) (headQ_normal ?_) _
  simp only [Act.put, List.drop_succ_cons, List.drop_zero]
  by_cases hov : s.most < ((framesL s1.es : Nat) : Int)
  case neg =>
    as_aux_lemma =>
      have hp := putL_few HS.out hov
      go_wp2_with (first | (go_at_call 62; refine (c62 _ _ _).mono ?_; rintro e w7 ⟨rfl, u7⟩; simp only [gt_iff_lt, hov, decide_false]; have U7 := Lib.hid (U6.out.then0 u7); clear u7))
      go_ret
      (try rw [hp])
      exact Gives.mk ⟨rfl, Q5'.out.keep U7.out (fun _ _ _ f => f), U5.out.then0 U7.out⟩
  have HV : Hid (victimL s1 < s1.es.length ∧ -1 ≤ victimL s1) := Lib.hid (victimL_lt s1)
  go_wp2_with (first | (go_at_call 62; refine (c62 _ _ _).mono ?_; rintro e w7 ⟨rfl, u7⟩; simp only [gt_iff_lt, hov, decide_true]; have U7 := Lib.hid (U6.out.then0 u7); clear u7))
  refine (c69 _ _ _ _ (Q5'.out.keep U7.out (fun _ _ _ f => f)) L1.out).mono ?_
  rintro e w8 ⟨rfl, u8⟩
  have U8 := Lib.hid (U7.out.then0 u8)
  clear u8
  by_cases hv : victimL s1 < 0
  case pos =>
    as_aux_lemma =>
      have hp := putL_none HS.out hov hv
      go_wp2
      go_ret
      (try rw [hp])
      exact Gives.mk ⟨rfl, Q5'.out.keep U8.out (fun _ _ _ f => f), U5.out.then0 U8.out⟩
  obtain ⟨i, hi⟩ : ∃ i : Nat, victimL s1 = i := ⟨(victimL s1).toNat, by have := HV.out; omega⟩
  have hil : i < s1.es.length := by have := HV.out.1; omega
  obtain ⟨y, hy⟩ : ∃ y, s1.es[i]? = some y := ⟨_, List.getElem?_eq_getElem hil⟩
  have HP := Lib.hid (putL_one HS.out hov hi hy)
  rw [hi]
  clear hv hov hi HV
  have Q8 := Q5'.out.keep U8.out (fun _ _ _ f => f)
  obtain ⟨F8, v8, B8, O8⟩ := Q8
  obtain ⟨g, off, cap, pv, cur, rfl, hcap, hg, hs, hFg, hp, hc⟩ := O8.at hy
  obtain ⟨pa, pc, rfl⟩ := hp.slice
  have kb3 : w8.cell? ⟨b, 3, none⟩ = some (.slice (some ⟨g, off, none⟩) s1.es.length cap) := cell_of_blk B8 3
  have hlt' : (i : Int) < s1.es.length := by omega
  have hfit : off + i * 17 + 17 ≤ cur.size := by omega
  have HO8 := Lib.hid O8
  have HB8 := Lib.hid B8
  have HG := Lib.hid hg
  have HC := Lib.hid hc
  clear O8 B8 hg hc hp hy hs kb0 F8
  go_wp2_with fail
  refine wp_region_head 13 (S := Upd No w8) (by kernel_rfl) follows ?_
  have hS0 : Upd No w8 w8.drew := (Upd.refl _ _).drew
  refine take_at 0 (by kernel_rfl) (by kernel_rfl) (by kernel_rfl) hS0 ?_
  intro o ho; simp only [List.take_succ_cons, List.take_zero, List.getElem?_toArray, List.getElem?_cons_succ, List.getElem?_cons_zero, Option.some.injEq] at ho; subst ho
  refine take_mk (v := ?_) (fun w' hS => ?_) rfl ?_ ?_; rotate_left
  · (go_simp; (try with_reducible rfl))
  · exact fun _ _ _ h => h
  simp only [Act.put, List.setIfInBounds_toArray, List.set_cons_zero, List.set_cons_succ]
  refine take_at 1 (by kernel_rfl) (by kernel_rfl) (by kernel_rfl) hS0 ?_
  intro o ho; simp only [List.take_succ_cons, List.take_zero, List.getElem?_toArray, List.getElem?_cons_succ, List.getElem?_cons_zero, Option.some.injEq] at ho; subst ho
  refine take_mk (v := ?_) (fun w' hS => ?_) rfl ?_ ?_; rotate_left
  · (go_simp; (try with_reducible rfl))
  · exact fun _ _ _ h => h
  simp only [Act.put, List.setIfInBounds_toArray, List.set_cons_zero, List.set_cons_succ]
  refine take_at 2 (by kernel_rfl) (by kernel_rfl) (by kernel_rfl) hS0 ?_
  intro o ho; simp only [List.take_succ_cons, List.take_zero, List.getElem?_toArray, List.getElem?_cons_succ, List.getElem?_cons_zero, Option.some.injEq] at ho; subst ho
  refine take_mk (v := ?_) (fun w' hS => ?_) rfl ?_ ?_; rotate_left
  · (go_simp; (try with_reducible rfl))
  · exact fun _ _ _ h => h
  simp only [Act.put, List.setIfInBounds_toArray, List.set_cons_zero, List.set_cons_succ]
  refine take_at 3 (by kernel_rfl) (by kernel_rfl) (by kernel_rfl) hS0 ?_
  intro o ho; simp only [List.take_succ_cons, List.take_zero, List.getElem?_toArray, List.getElem?_cons_succ, List.getElem?_cons_zero, Option.some.injEq] at ho; subst ho
  refine take_mk (v := ?_) (fun w' hS => ?_) rfl ?_ ?_; rotate_left
  · (have h3 := hS.cell0 kb3; go_simp; (try with_reducible rfl))
  · exact fun _ _ _ h => h
  simp only [Act.put, List.setIfInBounds_toArray, List.set_cons_zero, List.set_cons_succ]
  refine take_at 4 (by kernel_rfl) (by kernel_rfl) (by kernel_rfl) hS0 ?_
  intro o ho; simp only [List.take_succ_cons, List.take_zero, List.getElem?_toArray, List.getElem?_cons_succ, List.getElem?_cons_zero, Option.some.injEq] at ho; subst ho
  refine take_mk (v := ?_) (fun w' hS => ?_) rfl ?_ ?_; rotate_left
  · (go_simp; (try with_reducible rfl))
  · exact fun _ _ _ h => h
  simp only [Act.put, List.setIfInBounds_toArray, List.set_cons_zero, List.set_cons_succ]
  refine take_at 5 (by kernel_rfl) (by kernel_rfl) (by kernel_rfl) hS0 ?_
  intro o ho; simp only [List.take_succ_cons, List.take_zero, List.getElem?_toArray, List.getElem?_cons_succ, List.getElem?_cons_zero, Option.some.injEq] at ho; subst ho
  refine take_mk (v := ?_) (fun w' hS => ?_) rfl ?_ ?_; rotate_left
  · (go_simp; (try with_reducible rfl))
  · exact fun _ _ _ h => h
  simp only [Act.put, List.setIfInBounds_toArray, List.set_cons_zero, List.set_cons_succ]
  refine take_at 6 (by kernel_rfl) (by kernel_rfl) (by kernel_rfl) hS0 ?_
  intro o ho; simp only [List.take_succ_cons, List.take_zero, List.getElem?_toArray, List.getElem?_cons_succ, List.getElem?_cons_zero, Option.some.injEq] at ho; subst ho
  refine take_mk (v := ?_) (fun w' hS => ?_) rfl ?_ ?_; rotate_left
  · (go_simp; (try with_reducible rfl))
  · exact fun _ _ _ h => h
  simp only [Act.put, List.setIfInBounds_toArray, List.set_cons_zero, List.set_cons_succ]
  refine take_at 7 (by kernel_rfl) (by kernel_rfl) (by kernel_rfl) hS0 ?_
  intro o ho; simp only [List.take_succ_cons, List.take_zero, List.getElem?_toArray, List.getElem?_cons_succ, List.getElem?_cons_zero, Option.some.injEq] at ho; subst ho
  refine take_mk (v := ?_) (fun w' hS => ?_) rfl ?_ ?_; rotate_left
  · (go_simp; (try with_reducible rfl))
  · exact fun _ _ _ h => h
  simp only [Act.put, List.setIfInBounds_toArray, List.set_cons_zero, List.set_cons_succ]
  refine take_at 8 (by kernel_rfl) (by kernel_rfl) (by kernel_rfl) hS0 ?_
  intro o ho; simp only [List.take_succ_cons, List.take_zero, List.getElem?_toArray, List.getElem?_cons_succ, List.getElem?_cons_zero, Option.some.injEq] at ho; subst ho
  refine take_mk (v := ?_) (fun w' hS => ?_) rfl ?_ ?_; rotate_left
  · (have h3 := hS.cell0 kb3; go_simp; (try with_reducible rfl))
  · exact fun _ _ _ h => h
  simp only [Act.put, List.setIfInBounds_toArray, List.set_cons_zero, List.set_cons_succ]
  refine take_at 9 (by kernel_rfl) (by kernel_rfl) (by kernel_rfl) hS0 ?_
  intro o ho; simp only [List.take_succ_cons, List.take_zero, List.getElem?_toArray, List.getElem?_cons_succ, List.getElem?_cons_zero, Option.some.injEq] at ho; subst ho
  refine take_mk (v := ?_) (fun w' hS => ?_) rfl ?_ ?_; rotate_left
  · (go_simp; (try with_reducible rfl))
  · exact fun _ _ _ h => h
  simp only [Act.put, List.setIfInBounds_toArray, List.set_cons_zero, List.set_cons_succ]
  refine take_at 10 (by kernel_rfl) (by kernel_rfl) (by kernel_rfl) hS0 ?_
  intro o ho; simp only [List.take_succ_cons, List.take_zero, List.getElem?_toArray, List.getElem?_cons_succ, List.getElem?_cons_zero, Option.some.injEq] at ho; subst ho
  refine take_mk (v := ?_) (fun w' hS => ?_) rfl ?_ ?_; rotate_left
  · (go_simp; (try with_reducible rfl))
  · exact fun _ _ _ h => h
  simp only [Act.put, List.setIfInBounds_toArray, List.set_cons_zero, List.set_cons_succ]
  refine take_at 11 (by kernel_rfl) (by kernel_rfl) (by kernel_rfl) hS0 ?_
  intro o ho; simp only [List.take_succ_cons, List.take_zero, List.getElem?_toArray, List.getElem?_cons_succ, List.getElem?_cons_zero, Option.some.injEq] at ho; subst ho
  refine take_mk (v := .agg (y.c (.slice pa y.fr.parts.length pc)).toArray) (fun w' hS => ?_) rfl ?_ ?_
  · exact run_load_agg 45 (.tmp 47) rfl (g) (off + i * 17) rfl (y.c (.slice pa y.fr.parts.length pc)) _ Try.underlying45 rfl (by kernel_rfl) (fun j q hj => hS.cell0 (HC.out j q hj))
  · exact fun _ _ _ h => h
  simp only [Act.put, List.setIfInBounds_toArray, List.set_cons_zero, List.set_cons_succ]
  refine do_one 12 (by kernel_rfl) ?_
  intro o ho; simp only [List.take_succ_cons, List.take_zero, List.getElem?_toArray, List.getElem?_cons_succ, List.getElem?_cons_zero, Option.some.injEq] at ho; subst ho; intro K hK; refine if_take (by rfl) ?_
  go_wp2_with (first | (go_at_call 70; refine (c70 y _ rfl _).mono ?_; rintro e w9 ⟨r, rfl, rfl, u9⟩))
  have U9 : Upd No w8 w9 := hS0.then0 u9
  refine hK _ _ U9 ?_
  clear hK K u9 hS0
  obtain ⟨cs3, O9, -, E9⟩ := put_mem HO8.out hil (j := noteE y) rfl (noteE_one y) U9
  have G9 := U9.blk HG.out (fun f => f)
  have Q10 : Hid (QRep (w9.setCells g (off + i * 17) ((noteE y).c (.slice none 0 0))) b { s1 with es := s1.es.set i (noteE y) } (fun k => F k ∨ w.heap.size ≤ k)) := Lib.hid (set_q (.inl hF) (U9.blk HB8.out (fun f => f)) hFg.2 O9 E9)
  have U10 : Hid (Upd F w (w9.setCells g (off + i * 17) ((noteE y).c (.slice none 0 0)))) := Lib.hid (((U5.out.then0 U8.out).then0 U9).trans (Upd.setsO _ _ _ _) (fun k hk e => by have : k = g := e; subst this; exact hFg.1.resolve_right (by omega)))
  have HU9 := Lib.hid U9
  have HG9 := Lib.hid G9
  clear U9 G9 O9 E9 kb3
  have LL : Fits ({ s1 with es := s1.es.set i (noteE y) } : Q).es.length := by have := L1.out; simpa using this
  have HLL := Lib.hid LL
  clear LL
  refine wpAnyH_done (by kernel_rfl) (headQ_normal ?_) _
  simp only [Act.put, List.drop_succ_cons, List.drop_zero]
  go_wp2_with (first | (refine wpList_at (.store 45 (.tmp 50) (.tmp 49)) rfl ?_; refine wpList_store_agg rfl 45 (.tmp 50) (.tmp 49) rfl g (off + i * 17) rfl ((noteE y).c (.slice none 0 0)) rfl (by kernel_rfl) HG9.out hfit (noteE_one y) ?_))
  refine (c68 _ b { s1 with es := s1.es.set i (noteE y) } _ Q10.out HLL.out i (by simpa using hil)).mono ?_
  rintro e w11 ⟨r, rfl, rfl, Q11, u11⟩
  have H11 := Lib.hid (And.intro Q11 u11)
  clear Q11 u11
  go_wp2
  go_ret
  rw [HP.out]
  exact Gives.mk ⟨rfl, H11.out.1, U10.out.trans H11.out.2 (fun k hk h => h.resolve_right (by omega))⟩
end Go.Proofs.Ytaakmkkgnboedaa
