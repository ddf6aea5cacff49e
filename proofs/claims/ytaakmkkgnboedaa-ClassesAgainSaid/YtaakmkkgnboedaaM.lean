/- Contract of layer 19: All. (Printed by wip/tools/mk29.py.) -/
import Derived.Test.YtaakmkkgnboedaaJ
import Derived.Test.YtaakmkkgnboedaaP
namespace Go.Proofs.Ytaakmkkgnboedaa
open Go Go.RowKit Go.Kb
set_option maxRecDepth 100000 in
set_option maxHeartbeats 400000 in
theorem wpList_build1 {ops : Array Oper} {rest : List Oper} {o : Oper} {a : Act} {w : World} {Q : Exit → Act → World → Prop} (hgd : o.guard = none) (t : Operand) (ho : o.op = .buildSlice 73 1 #[(0, t)]) (x : En) (u : Value) (ht : a.eval t = .agg (x.c u).toArray)
    (h : wpList Try.prog ops Q rest (a.put o.dst (.slice (some ⟨w.heap.size, 0, none⟩) 1 1)) (w.alloc (.cells (x.c u).toArray 45))) : wpList Try.prog ops Q (o :: rest) a w :=
  wpList_plain hgd fun K hK => by
    unfold Oper.wp execOp
    simp only [ho, List.map_toArray, List.map_cons, List.map_nil, ht]
    go_simp
    simp only [En.c, List.length_cons, List.length_nil, List.zipIdx_cons, List.zipIdx_nil, List.foldl_cons, List.foldl_nil, List.setIfInBounds_toArray, List.set_cons_zero, List.set_cons_succ]
    go_simp
    exact hK _ _ h
def I29 (w : World) (l : List En) (v : Value) (wr : World) : Prop := OEns 45 wr v l (From w.heap.size) ∧ Upd No w wr
set_option maxRecDepth 100000 in
set_option maxHeartbeats 800000 in
theorem c29 (w : World) (b : Nat) (s : Q) (F : Nat → Prop) (h : QRep w b s F) (hf : Fits s.es.length) (hsm : ∀ x ∈ s.es, Small x) :
    Calls Try.prog 29 #[.pointer (some ⟨b, 0, none⟩)] w (Gives fun r w' => OEns 45 w' r s.es (From w.heap.size) ∧ Upd No w w') := by
  have HQ := Lib.hid h
  obtain ⟨hF, v, hb, hO⟩ := HQ.out
  have hmax : s.es.length ≤ 60000 := hf
  obtain ⟨a0, cap0, rfl⟩ := hO.slice
  obtain ⟨kb, kbf⟩ := blk_walk hb
  have HO := Lib.hid hO
  have HS := Lib.hid hsm
  clear hO hb hf h hsm
  go_enter Try.func29, Try.ntmps29
  go_wp2
  clear kb kbf
  go_loopw [2, 12] (fun n i wr => ∃ k : Nat, k ≤ s.es.length ∧ i = .int .i64 k ∧ Hid (I29 w (s.es.take k) n wr)) (fun _ i _ => s.es.length - (intOf i).toNat)
  case atStart => exact ⟨0, Nat.zero_le _, rfl, Lib.hid ⟨⟨[], OC.nil _ _ _ _ _, rfl⟩, Upd.refl _ _⟩⟩
  case round =>
    obtain ⟨k, hk, rfl, hI⟩ := hrel
    by_cases hlt : k < s.es.length
    · skip
      obtain ⟨x, hx⟩ : ∃ x, s.es[k]? = some x := ⟨_, List.getElem?_eq_getElem hlt⟩
      obtain ⟨g, off, cap, pv, cur, he, hcap, hg, hs, hFg, hp, hc⟩ := (HO.out.keep hI.out.2 (fun _ _ _ f => f)).at hx
      injection he with he _ he3
      subst he; subst he3
      have hlt' : (k : Int) < s.es.length := by omega
      have HC := Lib.hid hc
      have H1 := Lib.hid hp.one
      have HT : Hid (s.es.take (k + 1) = s.es.take k ++ [x]) := Lib.hid (by rw [List.take_add_one, hx]; rfl)
      have HX := Lib.hid (HS.out x (List.mem_of_getElem? hx))
      have HP := Lib.hid hp
      clear hc hp hg hs hx
      obtain ⟨cs, hOC, hE⟩ := hI.out.1
      have hcl : (s.es.take k).length = k := by rw [List.length_take, Nat.min_eq_left hk]
      have hm1 : (s.es.take k).length + 1 ≤ maxLen := by unfold maxLen; omega
      have hm2 : ((s.es.take k).length + 1) * 72 ≤ 140737488355328 := by omega
      have HOC := Lib.hid hOC
      have HE := Lib.hid hE
      clear hOC hE
      go_wp2_with (first
          | (refine wpList_at (.load 45 (.tmp 14)) rfl ?_; refine wpList_load_agg rfl 45 (.tmp 14) rfl g (off + k * 17) rfl (x.c pv) _ Try.underlying45 rfl (by kernel_rfl) HC.out ?_)
          | (refine wpList_at (.store 45 (.tmp 4) (.tmp 15)) rfl ?_; refine wpList_store_agg rfl 45 (.tmp 4) (.tmp 15) rfl wr.heap.size 0 rfl (x.c pv) rfl (by kernel_rfl) (blk_new _ _) (Nat.le_refl 17) H1.out ?_; obtain ⟨g0, gU⟩ := rng_copy wr zE 45 (x.c pv) rfl; revert g0 gU; generalize World.setCells _ wr.heap.size 0 (x.c pv) = W2; intro g0 gU; have GU := Lib.hid gU; clear gU; have G0 := Lib.hid g0; clear g0)
          | (refine wpList_at (.load 45 (.tmp 4)) rfl ?_; refine wpList_load_agg rfl 45 (.tmp 4) rfl wr.heap.size 0 rfl (x.c pv) _ Try.underlying45 rfl (by kernel_rfl) (all_cells G0.out) ?_)
          | (go_at_call 58; refine (c58 _ pv x _ (HP.out.keep GU.out (fun _ _ _ f => f)) HX.out.1 HX.out.2).mono ?_; rintro e w3 ⟨r, rfl, u1, rfl, ho, hu⟩; have P3 := Lib.hid (ho.mono (F' := From wr.heap.size) (fun k _ hk => Nat.le_trans GU.out.size hk)); have U3 := Lib.hid (GU.out.then0 hu); clear ho hu)
          | (refine wpList_at (.buildSlice 73 1 #[(0, .tmp 18)]) rfl ?_; refine wpList_build1 rfl (.tmp 18) rfl x u1 rfl ?_)
          | (at_builtin; refine wpList_append_oc rfl (.tmp 16) (.tmp 19) 73 rfl Try.underlying73 info45 rfl (by decide) rfl rfl (HOC.out.own.keep (U3.out.alloc _) (fun _ _ _ f => f)) (RC.new w3 17 (x.c u1) 45 1 rfl (by decide)) (fun q hq => P3.out.r.one q hq) hm1 hm2 ?_; intro v4 w4 h4 u4; have E4 := Lib.hid (OEns.push HE.out (U3.out.alloc _) (OParts.keep P3.out ((Upd.refl No _).alloc _) (fun _ _ _ f => f)) h4 u4); have U4 := Lib.hid (Upd.trans (S := No) (hI.out.2.then0 (U3.out.alloc (.cells (x.c u1).toArray 45))) u4 (fun k hk h => absurd hk (Nat.not_lt.2 h.1.1))); clear h4 u4))
      exact ⟨⟨k + 1, by omega, by go_num, Lib.hid ⟨by rw [HT.out]; exact E4.out.mono (fun q _ hq => hq.elim id (fun h => Nat.le_trans hI.out.2.size h)), U4.out⟩⟩, by simp [intOf]; omega⟩
    · obtain rfl : k = s.es.length := by omega
      clear HO
      obtain ⟨h1, h2⟩ := hI.out
      rw [List.take_length] at h1
      obtain ⟨a2, c2, rfl⟩ := h1.slice
      have H1 := Lib.hid h1
      have H2 := Lib.hid h2
      clear h1 h2
      go_wp2
      go_ret
      exact Gives.mk ⟨H1.out, H2.out⟩
end Go.Proofs.Ytaakmkkgnboedaa
