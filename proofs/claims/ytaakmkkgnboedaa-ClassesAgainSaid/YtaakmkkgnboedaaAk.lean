/- Contract of layer 19: packets that are sent again: Put takes one. (Printed by wip/tools/mk42.py.) -/
import Derived.Test.YtaakmkkgnboedaaAj
namespace Go.Kb
open Go.RowKit
/-- A packet more. -/
theorem OPks.push {w w1 w2 : World} {v v' pv : Value} {ps : List Pk} {x : Pk} {cs : List Value} {F : Nat → Prop}
    (hE : Els 2 (RPk w (Off v F)) ps cs) (hu : Upd No w w1) (hp : OBytes w1 pv x.b (From w.heap.size))
    (hO : OC w2 129 2 v' (ps.length + 1) (cs ++ [.int .u16 x.seq, pv]) (fun k => ((F k ∧ k < w.heap.size) ∧ some k = v.ownBlock) ∨ w1.heap.size ≤ k)) (hu2 : Upd (fun k => (F k ∧ k < w.heap.size) ∧ some k = v.ownBlock) w1 w2) :
    OPks w2 v' (ps ++ [x]) (fun k => F k ∨ w.heap.size ≤ k) := by
  have hsz : w.heap.size ≤ w1.heap.size := hu.size
  obtain ⟨g, off, cap, cur, rfl, hn, hb, hs, hg, hc⟩ := hO.at (by omega)
  refine ⟨cs ++ [.int .u16 x.seq, pv], ?_, Els.append ?_ (Els.one rfl ⟨pv, rfl, ?_⟩)⟩
  · rw [List.length_append]
    exact hO.mono fun k _ hk => by
      rcases hk with hk | hk
      · exact .inl hk.1.1
      · exact .inr (Nat.le_trans hsz hk)
  · refine hE.imp fun _ _ h => ((((h.mono (F' := fun k => Off v F k ∧ k < w.heap.size) fun k hk h => ⟨h, hk⟩).keep hu (fun _ _ _ f => f)).keep hu2 (fun k _ hk h => hk.1.2 h.2)).mono fun k _ hk => ⟨.inl hk.1.1, ?_⟩)
    intro e
    obtain rfl : k = g := by simpa [Value.ownBlock] using e
    rcases hg with hg | hg
    · exact hk.1.2 hg.2
    · omega
  · have h1 : OBytes w2 pv x.b (From w.heap.size) := hp.keep hu2 (fun k _ hk h => by have h1 : w.heap.size ≤ k := hk; have := h.1.2; omega)
    refine (OC.typed h1).rc.mono fun k _ ⟨hk, cur', hb'⟩ => ⟨.inr hk, fun e => ?_⟩
    obtain rfl : k = g := by simpa [Value.ownBlock] using e
    rw [hb] at hb'
    injection hb' with hb'
    injection hb' with _ h45 _
    exact absurd h45 (by decide)
theorem push_a {w w3 : World} {b : Nat} {s : Ag} {F : Nat → Prop} {l : List Pk} {v' v : Value} (hF : F b) (hb : w3.heap[b]? = some (.cells #[.int .i64 s.most, v'] 127 (0, 0)))
    (h : OPks w3 v l (fun k => (F k ∧ k ≠ b) ∨ w.heap.size ≤ k)) (hl : b < w.heap.size) : ARep (w3.setCell ⟨b, 1, none⟩ v) b { s with ps := l } (fun k => F k ∨ w.heap.size ≤ k) := by
  refine ⟨.inl hF, v, by rw [blk_setCell hb]; rfl, (h.keep (Upd.set1 w3 b 1 v) (fun k _ hk e => ?_)).mono fun k _ hk => ?_⟩
  · have : k = b := e
    rcases hk with hk | hk
    · exact hk.2 this
    · omega
  · rcases hk with hk | hk
    · exact ⟨.inl hk.1, hk.2⟩
    · exact ⟨.inr hk, by omega⟩
end Go.Kb
namespace Go.Proofs.Ytaakmkkgnboedaa
open Go Go.RowKit Go.Kb
set_option linter.unusedVariables false
set_option linter.unusedSimpArgs false
set_option maxRecDepth 100000 in
set_option maxHeartbeats 1600000 in
theorem c42 (w : World) (b : Nat) (s : Ag) (F G : Nat → Prop) (n : Int) (v : Value) (bs : List Int) (h : ARep w b s F) (hf : Fits (s.ps.length + 1)) (hm : mayPut s n = true) (hv : RBytes w v bs G) (hfb : Fits bs.length) :
    Calls Try.prog 42 #[.pointer (some ⟨b, 0, none⟩), .int .u16 n, v] w fun e w' => e = .returned (.bool true) ∧ ARep w' b { s with ps := s.ps ++ [⟨n, bs⟩] } (fun k => F k ∨ w.heap.size ≤ k) ∧ Upd F w w' := by
  obtain ⟨hF, pv, hb, cs, hO, hE⟩ := h
  have hmax : s.ps.length + 1 ≤ 60000 := hf
  obtain ⟨a0, cap0, rfl, -⟩ := hO.slice
  obtain ⟨av, capv, rfl⟩ := hv.slice
  have H1 : Hid (∀ u ∈ cs, u.oneCell' = true) := hE.all fun _ _ h => h.one
  have hbl := blk_lt hb
  have hm1 : s.ps.length + 1 ≤ maxLen := by have := hf.maxLen; omega
  have hm2 : (s.ps.length + 1) * 32 ≤ 140737488355328 := by have := hf.mul 32 (by decide); omega
  have HM : Hid (decide ((s.ps.length : Int) + 1 > s.most) = false ∧ s.ps.any (fun p => p.seq == n) = false) := by
    unfold mayPut at hm
    simp only [Bool.and_eq_true, decide_eq_true_eq, Bool.not_eq_true'] at hm
    exact ⟨by simpa using hm.1, hm.2⟩
  have UA := Lib.hid ((Upd.refl No w).alloc (.cells #[.int .u16 n] 36))
  have HO := Lib.hid hO
  have HE := Lib.hid hE
  have HV := Lib.hid hv.bound
  have HN := Lib.hid (blk_new w (.cells #[.int .u16 n] 36))
  have HF : Hid (Fits s.ps.length) := Lib.hid (by unfold Fits; omega)
  have HB := Lib.hid (blk_alloc hb (.cells #[.int .u16 n] 36))
  have HBw := Lib.hid hb
  clear hO hE hb hf hm hv
  go_enter Try.func42, Try.ntmps42
  go_wp2_with fail
  obtain ⟨W, hW⟩ : ∃ W, W = w.alloc (.cells #[.int .u16 n] 36) := ⟨_, rfl⟩
  rw [← hW] at HN HB UA
  rw [← hW]
  clear hW
  have UW := Lib.hid ((Upd.refl No W).drew)
  have k0 := cell_of_blk HB.out 0
  have k1 := cell_of_blk HB.out 1
  have hw1 : IntKind.i64.wrap ((s.ps.length : Int) + 1) = (s.ps.length : Int) + 1 := IntWalk.i64_in _ (by omega)
  go_region_held3 (fun w' => Hid (Upd No W w') ∧ w'.cell? ⟨b, 0, none⟩ = some (.int .i64 s.most) ∧ w'.cell? ⟨b, 1, none⟩ = some (.slice a0 s.ps.length cap0))
    (first | exact ⟨‹_›, ‹_›, ‹_›⟩ | go_keep)
    (first
      | (go_at_call 62; refine (c62 _ _ _).mono ?_; rintro e w1 ⟨he, u1⟩; rw [HM.out.1] at he; subst he; have hS := ‹Hid (Upd No W _) ∧ _›; have U1 := Lib.hid (hS.1.out.then0 u1); have j0 := u1.cell0 hS.2.1; have j1 := u1.cell0 hS.2.2; clear u1 hS)
      | (go_at_call 63; have hS := ‹Hid (Upd No W _) ∧ _›; refine (c63 _ _ _ _ n _ (OPks.keep ⟨cs, HO.out, HE.out⟩ (UA.out.then0 hS.1.out) (fun _ _ _ f => f)) HF.out (hS.1.out.blk HN.out (fun f => f))).mono ?_; rintro e w2 ⟨he, u2⟩; rw [HM.out.2] at he; subst he; have U2 := Lib.hid (hS.1.out.then0 u2); clear u2 hS; have l0 := U2.out.blk HB.out (fun f => f); have l1 := cell_of_blk l0 1; have l2 := cell_of_blk l0 0; clear l0))
  clear k0 k1 hw1 UW j0 j1 U1 HB HF HM
  have UB := Lib.hid (UA.out.then0 U2.out)
  have HN2 := Lib.hid (U2.out.blk HN.out (fun f => f))
  go_wp2_with fail
  have KB := Lib.hid (cell_of_blk (UB.out.blk HBw.out (fun f => f)) 1)
  have KN := Lib.hid (cell_of_blk HN2.out 0)
  have hwn : w.heap.size < w2.heap.size := by have := UA.out.size; have := blk_lt HN2.out; omega
  refine wp_region_head 11 (S := Upd (fun k => ((F k ∧ k ≠ b) ∧ k < w.heap.size) ∧ some k = (Value.slice a0 s.ps.length cap0).ownBlock) w2) (by kernel_rfl) follows ?_
  have hS0 : Upd (fun k => ((F k ∧ k ≠ b) ∧ k < w.heap.size) ∧ some k = (Value.slice a0 s.ps.length cap0).ownBlock) w2 w2.drew := (Upd.refl _ _).drew
  refine take_at 0 (by kernel_rfl) (by kernel_rfl) (by kernel_rfl) hS0 ?_
  intro o ho; simp only [List.take_succ_cons, List.take_zero, List.getElem?_toArray, List.getElem?_cons_succ, List.getElem?_cons_zero, Option.some.injEq] at ho; subst ho
  refine take_mk (v := ?_) (fun w' hS => ?_) rfl ?_ ?_; rotate_left
  · (go_simp; (try with_reducible rfl))
  · exact fun _ _ _ h => h
  simp only [Act.put, List.setIfInBounds_toArray, List.set_cons_zero, List.set_cons_succ]
  refine take_at 1 (by kernel_rfl) (by kernel_rfl) (by kernel_rfl) hS0 ?_
  intro o ho; simp only [List.take_succ_cons, List.take_zero, List.getElem?_toArray, List.getElem?_cons_succ, List.getElem?_cons_zero, Option.some.injEq] at ho; subst ho
  refine take_mk (v := ?_) (fun w' hS => ?_) rfl ?_ ?_; rotate_left
  · (go_simp; (try with_reducible rfl))
  · exact fun _ _ _ h => h
  simp only [Act.put, List.setIfInBounds_toArray, List.set_cons_zero, List.set_cons_succ]
  refine take_at 2 (by kernel_rfl) (by kernel_rfl) (by kernel_rfl) hS0 ?_
  intro o ho; simp only [List.take_succ_cons, List.take_zero, List.getElem?_toArray, List.getElem?_cons_succ, List.getElem?_cons_zero, Option.some.injEq] at ho; subst ho
  refine take_mk (v := ?_) (fun w' hS => ?_) rfl ?_ ?_; rotate_left
  · (go_simp; (try with_reducible rfl))
  · exact fun _ _ _ h => h
  simp only [Act.put, List.setIfInBounds_toArray, List.set_cons_zero, List.set_cons_succ]
  refine take_at 3 (by kernel_rfl) (by kernel_rfl) (by kernel_rfl) hS0 ?_
  intro o ho; simp only [List.take_succ_cons, List.take_zero, List.getElem?_toArray, List.getElem?_cons_succ, List.getElem?_cons_zero, Option.some.injEq] at ho; subst ho
  refine take_mk (v := ?_) (fun w' hS => ?_) rfl ?_ ?_; rotate_left
  · (go_simp; (try with_reducible rfl))
  · exact fun _ _ _ h => h
  simp only [Act.put, List.setIfInBounds_toArray, List.set_cons_zero, List.set_cons_succ]
  refine take_at 4 (by kernel_rfl) (by kernel_rfl) (by kernel_rfl) hS0 ?_
  intro o ho; simp only [List.take_succ_cons, List.take_zero, List.getElem?_toArray, List.getElem?_cons_succ, List.getElem?_cons_zero, Option.some.injEq] at ho; subst ho
  refine take_mk (v := ?_) (fun w' hS => ?_) rfl ?_ ?_; rotate_left
  · (have k1 := hS.cellS (show w2.cell? ⟨b, 1, none⟩ = some (.slice a0 s.ps.length cap0) from KB.out) (fun h => h.1.1.2 rfl); go_simp; (try with_reducible rfl))
  · exact fun _ _ _ h => h
  simp only [Act.put, List.setIfInBounds_toArray, List.set_cons_zero, List.set_cons_succ]
  refine take_at 5 (by kernel_rfl) (by kernel_rfl) (by kernel_rfl) hS0 ?_
  intro o ho; simp only [List.take_succ_cons, List.take_zero, List.getElem?_toArray, List.getElem?_cons_succ, List.getElem?_cons_zero, Option.some.injEq] at ho; subst ho
  refine take_mk (v := ?_) (fun w' hS => ?_) rfl ?_ ?_; rotate_left
  · (have k0 := hS.cellS (show w2.cell? ⟨w.heap.size, 0, none⟩ = some (.int .u16 n) from KN.out) (fun h => Nat.lt_irrefl _ h.1.2); go_simp; (try with_reducible rfl))
  · exact fun _ _ _ h => h
  simp only [Act.put, List.setIfInBounds_toArray, List.set_cons_zero, List.set_cons_succ]
  refine take_at 6 (by kernel_rfl) (by kernel_rfl) (by kernel_rfl) hS0 ?_
  intro o ho; simp only [List.take_succ_cons, List.take_zero, List.getElem?_toArray, List.getElem?_cons_succ, List.getElem?_cons_zero, Option.some.injEq] at ho; subst ho
  refine take_mk (v := ?_) (fun w' hS => ?_) rfl ?_ ?_; rotate_left
  · (go_simp; (try with_reducible rfl))
  · exact fun _ _ _ h => h
  simp only [Act.put, List.setIfInBounds_toArray, List.set_cons_zero, List.set_cons_succ]
  refine do_one 7 (by kernel_rfl) ?_
  intro o ho; simp only [List.take_succ_cons, List.take_zero, List.getElem?_toArray, List.getElem?_cons_succ, List.getElem?_cons_zero, Option.some.injEq] at ho; subst ho; intro K hK; refine if_take (by rfl) ?_
  go_wp2_with (first | (go_at_call 54; refine (c54 _ _ _ _ _ (HV.out.keep UB.out.drew (fun _ _ _ f => f)) (byt_one _) hfb).mono ?_; rintro e w3 ⟨r, rfl, ho, hu⟩; obtain ⟨a3, cap3, rfl, -⟩ := ho.slice))
  have U3 := Lib.hid (UB.out.drew.then0 hu)
  have V3 := hS0.then0 hu
  have O3 := Lib.hid (ho.mono (F' := From w.heap.size) (fun k _ hk => Nat.le_trans (Nat.le_of_lt hwn) hk))
  refine hK _ _ V3 ?_
  clear hK K ho hu hS0
  try simp only [Act.put, List.setIfInBounds_toArray, List.set_cons_zero, List.set_cons_succ]
  refine take_at 8 (by kernel_rfl) (by kernel_rfl) (by kernel_rfl) V3 ?_
  intro o ho; simp only [List.take_succ_cons, List.take_zero, List.getElem?_toArray, List.getElem?_cons_succ, List.getElem?_cons_zero, Option.some.injEq] at ho; subst ho
  refine take_mk (v := ?_) (fun w' hS => ?_) rfl ?_ ?_; rotate_left
  · (go_simp; (try with_reducible rfl))
  · exact fun _ _ _ h => h
  simp only [Act.put, List.setIfInBounds_toArray, List.set_cons_zero, List.set_cons_succ]
  refine do_one 9 (by kernel_rfl) ?_
  intro o ho; simp only [List.take_succ_cons, List.take_zero, List.getElem?_toArray, List.getElem?_cons_succ, List.getElem?_cons_zero, Option.some.injEq] at ho; subst ho; intro K hK; refine if_take (by rfl) ?_
  go_simp
  obtain ⟨w4, hw4⟩ : ∃ w4, w4 = w3.alloc (.cells #[.int .u16 n, .slice a3 bs.length cap3] 129) := ⟨_, rfl⟩
  have R4 : RC w4 2 (.slice (some ⟨w3.heap.size, 0, none⟩) 1 1) 1 [.int .u16 n, .slice a3 bs.length cap3] (Only w3.heap.size) := by subst hw4; exact RC.new w3 2 [.int .u16 n, .slice a3 bs.length cap3] 129 1 rfl (by decide)
  have U4 : Upd No w w4 := by subst hw4; exact U3.out.alloc _
  have V4 : Upd (fun k => ((F k ∧ k ≠ b) ∧ k < w.heap.size) ∧ some k = (Value.slice a0 s.ps.length cap0).ownBlock) w2 w4 := by subst hw4; exact V3.alloc _
  have O4 : OBytes w4 (.slice a3 bs.length cap3) bs (From w.heap.size) := by subst hw4; exact O3.out.keep ((Upd.refl No _).alloc _) (fun _ _ _ f => f)
  show K _ (w3.alloc (.cells #[.int .u16 n, .slice a3 bs.length cap3] 129))
  rw [← hw4]
  refine hK _ _ V4 ?_
  clear hK K hw4
  refine do_one 10 (by kernel_rfl) ?_
  intro o ho; simp only [List.take_succ_cons, List.take_zero, List.getElem?_toArray, List.getElem?_cons_succ, List.getElem?_cons_zero, Option.some.injEq] at ho; subst ho; intro K hK; refine if_take (by rfl) ?_
  refine wp_append_oc (.tmp 34) (.tmp 39) 125 rfl Try.underlying125 info129 rfl (by decide) rfl rfl (HO.out.own.keep U4 (fun _ _ _ f => f)) R4 (by intro q hq; simp at hq; rcases hq with rfl | rfl <;> rfl) hm1 hm2 ?_
  intro v5 w5 h5 u5
  have E5 : OPks w5 v5 (s.ps ++ [⟨n, bs⟩]) (fun k => (F k ∧ k ≠ b) ∨ w.heap.size ≤ k) := OPks.push (x := ⟨n, bs⟩) HE.out U4 O4 h5 u5
  obtain ⟨a5, cap5, rfl⟩ := E5.slice
  have U5 : Upd F w w5 := (U4.mono (fun _ _ f => f.elim)).trans u5 (fun k _ h => h.1.1.1)
  have B5 : w5.heap[b]? = _ := u5.blk (U4.blk HBw.out (fun f => f)) (fun h => h.1.1.2 rfl)
  refine hK _ _ (V4.trans u5 (fun k _ h => h)) ?_
  clear hK K
  have Q6 : ARep (w5.setCell ⟨b, 1, none⟩ (.slice a5 (s.ps ++ [(⟨n, bs⟩ : Pk)]).length cap5)) b { s with ps := s.ps ++ [⟨n, bs⟩] } (fun k => F k ∨ w.heap.size ≤ k) := push_a hF B5 E5 hbl
  have U6 : Upd F w (w5.setCell ⟨b, 1, none⟩ (.slice a5 (s.ps ++ [(⟨n, bs⟩ : Pk)]).length cap5)) := U5.setCell (p := ⟨b, 1, none⟩) (fun _ => hF) _
  obtain ⟨kb, kbf⟩ := blk_walk B5
  rw [show (s.ps ++ [(⟨n, bs⟩ : Pk)]).length = s.ps.length + 1 by simp] at Q6 U6
  have HX := Lib.hid (And.intro Q6 U6)
  clear Q6 U6 U5 B5 E5 u5 h5 O4 U4 R4 V4 V3 U3 O3
  refine wpAnyH_done (by kernel_rfl) (headQ_normal ?_) _
  simp only [Act.put, List.drop_succ_cons, List.drop_zero]
  go_wp2
  go_ret
  exact ⟨rfl, HX.out.1, HX.out.2⟩
end Go.Proofs.Ytaakmkkgnboedaa
