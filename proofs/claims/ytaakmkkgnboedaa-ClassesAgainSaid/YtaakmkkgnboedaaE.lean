/- Contract of layer 19: two notes joined. (Its walk is printed by wip/tools/c77.py.) -/
import Derived.Test.YtaakmkkgnboedaaD
namespace Go.Proofs.Ytaakmkkgnboedaa
open Go Go.RowKit Go.Kb
theorem noteJ_oneI (x : En) (kn : Bool) (td : Int) (dr : Bool) : ∀ u ∈ (noteJ x kn td dr).ci (.slice none 0 0), u.oneCell' = true := fun u hu => noteJ_one x kn td dr u (by rw [En.c_ci]; exact List.mem_append_right _ hu)
theorem noteJ_set {w : World} {g : Nat} {t : TypeId} {x : En} {v : Value} {kn : Bool} {td : Int} {dr : Bool} (b0 : w.heap[g]? = some (.cells (x.c v).toArray t (0, 0))) :
    (w.setCells g 2 ((noteJ x kn td dr).ci (.slice none 0 0))).heap[g]? = some (.cells ((noteJ x kn td dr).c (.slice none 0 0)).toArray t (0, 0)) := by
  rw [blk_setCells b0 (by simp [En.ci, En.c])]
  simp [En.ci, En.c, noteJ]
def W77 (w : World) (x y : En) (v u : Value) : World := ((w.alloc (.cells (x.c v).toArray 45)).alloc (.cells (y.c u).toArray 45)).alloc (.cells ((⟨0, 0, false, false, 0, false, Fr.z⟩ : En).c (.slice none 0 0)).toArray 45)
set_option linter.unusedSimpArgs false in
set_option maxRecDepth 100000 in
set_option maxHeartbeats 8000000 in
theorem c77 (x y : En) (v u : Value) (hv : ∀ q ∈ x.c v, q.oneCell' = true) (hu : ∀ q ∈ y.c u, q.oneCell' = true) (w : World) :
    Calls Try.prog 77 #[.agg (x.c v).toArray, .agg (y.c u).toArray] w (Gives fun r w' => r = .agg ((joinedE x y).c (.slice none 0 0)).toArray ∧ Upd No w w') := by
  have HV : Hid (∀ q ∈ x.ci v, q.oneCell' = true) := fun q hq => hv q (by rw [En.c_ci]; exact List.mem_append_right _ hq)
  have HU : Hid (∀ q ∈ y.ci u, q.oneCell' = true) := fun q hq => hu q (by rw [En.c_ci]; exact List.mem_append_right _ hq)
  clear hv hu
  go_enter Try.func77, Try.ntmps77
  go_wp2_with fail
  obtain ⟨W, hW⟩ : ∃ W, W = W77 w x y v u := ⟨_, rfl⟩
  have e0 : W.heap[w.heap.size]? = some (.cells (x.c v).toArray 45 (0, 0)) := by subst hW; exact blk_alloc (blk_alloc (blk_new _ _) _) _
  have e1 : W.heap[w.heap.size + 1]? = some (.cells (y.c u).toArray 45 (0, 0)) := by subst hW; exact blk_alloc (heap_alloc2_new _ _ _) _
  have e2 : W.heap[w.heap.size + 2]? = some (.cells ((⟨0, 0, false, false, 0, false, Fr.z⟩ : En).c (.slice none 0 0)).toArray 45 (0, 0)) := by subst hW; have := blk_new ((w.alloc (.cells (x.c v).toArray 45)).alloc (.cells (y.c u).toArray 45)) (.cells ((⟨0, 0, false, false, 0, false, Fr.z⟩ : En).c (.slice none 0 0)).toArray 45); rw [World.size_alloc, World.size_alloc] at this; exact this
  have eU : Upd No w W := by subst hW; exact (((Upd.refl _ _).alloc _).alloc _).alloc _
  have eS : W.heap.size = w.heap.size + 3 := by subst hW; simp [W77]
  have HW := Lib.hid hW
  show Code.wp _ _ _ _ (W77 w x y v u)
  rw [← hW]
  clear hW
  have hS0 : Upd No W W.drew := (Upd.refl _ _).drew
  refine wp_region_head 7 (S := Upd No W) (by kernel_rfl) follows ?_
  refine take_at 0 (by kernel_rfl) (by kernel_rfl) (by kernel_rfl) hS0 ?_
  intro o ho; simp only [List.take_succ_cons, List.take_zero, List.getElem?_toArray, List.getElem?_cons_succ, List.getElem?_cons_zero, Option.some.injEq] at ho; subst ho
  refine take_mk (v := ?_) (fun w' hS => ?_) rfl ?_ ?_; rotate_left
  · (go_simp; (try with_reducible rfl))
  · exact fun _ _ _ h => h
  simp only [Act.put, List.setIfInBounds_toArray, List.set_cons_zero, List.set_cons_succ]
  refine take_at 1 (by kernel_rfl) (by kernel_rfl) (by kernel_rfl) hS0 ?_
  intro o ho; simp only [List.take_succ_cons, List.take_zero, List.getElem?_toArray, List.getElem?_cons_succ, List.getElem?_cons_zero, Option.some.injEq] at ho; subst ho
  refine take_mk (v := .agg (x.ci v).toArray) (fun w' hS => ?_) rfl ?_ ?_
  · exact run_load_agg 43 (.tmp 8) rfl (w.heap.size) (2) rfl (x.ci v) _ Try.underlying43 rfl (by kernel_rfl) (sub_cells (hS.blk e0 (fun f => f)) (sub_right (a := [.int .u64 x.grant, .int .i64 x.slot]) rfl))
  · exact fun _ _ _ h => h
  simp only [Act.put, List.setIfInBounds_toArray, List.set_cons_zero, List.set_cons_succ]
  refine take_at 2 (by kernel_rfl) (by kernel_rfl) (by kernel_rfl) hS0 ?_
  intro o ho; simp only [List.take_succ_cons, List.take_zero, List.getElem?_toArray, List.getElem?_cons_succ, List.getElem?_cons_zero, Option.some.injEq] at ho; subst ho
  refine take_mk (v := ?_) (fun w' hS => ?_) rfl ?_ ?_; rotate_left
  · (go_simp; (try with_reducible rfl))
  · exact fun _ _ _ h => h
  simp only [Act.put, List.setIfInBounds_toArray, List.set_cons_zero, List.set_cons_succ]
  refine take_at 3 (by kernel_rfl) (by kernel_rfl) (by kernel_rfl) hS0 ?_
  intro o ho; simp only [List.take_succ_cons, List.take_zero, List.getElem?_toArray, List.getElem?_cons_succ, List.getElem?_cons_zero, Option.some.injEq] at ho; subst ho
  refine take_mk (v := .agg (y.ci u).toArray) (fun w' hS => ?_) rfl ?_ ?_
  · exact run_load_agg 43 (.tmp 10) rfl (w.heap.size + 1) (2) rfl (y.ci u) _ Try.underlying43 rfl (by kernel_rfl) (sub_cells (hS.blk e1 (fun f => f)) (sub_right (a := [.int .u64 y.grant, .int .i64 y.slot]) rfl))
  · exact fun _ _ _ h => h
  simp only [Act.put, List.setIfInBounds_toArray, List.set_cons_zero, List.set_cons_succ]
  refine do_at [4, 5] (by kernel_rfl) (by simp) ?_
  intro i hi o ho K hK
  simp at hi
  rcases hi with rfl | rfl
  · simp only [List.take_succ_cons, List.take_zero, List.getElem?_toArray, List.getElem?_cons_succ, List.getElem?_cons_zero, Option.some.injEq] at ho; subst ho; refine if_take (by rfl) ?_
    go_simp
    refine hK _ _ (hS0.alloc _) ?_
    clear hK K
    refine do_one 5 (by kernel_rfl) ?_
    intro o ho; simp only [List.take_succ_cons, List.take_zero, List.getElem?_toArray, List.getElem?_cons_succ, List.getElem?_cons_zero, Option.some.injEq] at ho; subst ho; intro K hK; refine if_take (by rfl) ?_
    go_simp
    refine hK _ _ ((hS0.alloc _).alloc _) ?_
    clear hK K
    refine do_one 6 (by kernel_rfl) ?_
    intro o ho; simp only [List.take_succ_cons, List.take_zero, List.getElem?_toArray, List.getElem?_cons_succ, List.getElem?_cons_zero, Option.some.injEq] at ho; subst ho; intro K hK; refine if_take (by rfl) ?_
    rw [← eS]
    have z5 : ((W.alloc (.cells #[.bool false, .bool false, .int .u8 0, .bool false, .int .u8 0, .int .u32 0, .bool false, .int .u16 0, .bool false, .int .u8 0, .int .u8 0, .bool false, .bool false, .bool false, .slice none 0 0] 43)).alloc (.cells #[.bool false, .bool false, .int .u8 0, .bool false, .int .u8 0, .int .u32 0, .bool false, .int .u16 0, .bool false, .int .u8 0, .int .u8 0, .bool false, .bool false, .bool false, .slice none 0 0] 43)).drew.heap[W.heap.size]? = some (.cells #[.bool false, .bool false, .int .u8 0, .bool false, .int .u8 0, .int .u32 0, .bool false, .int .u16 0, .bool false, .int .u8 0, .int .u8 0, .bool false, .bool false, .bool false, .slice none 0 0] 43) := blk_alloc (blk_new W _) _
    have z6 : ((W.alloc (.cells #[.bool false, .bool false, .int .u8 0, .bool false, .int .u8 0, .int .u32 0, .bool false, .int .u16 0, .bool false, .int .u8 0, .int .u8 0, .bool false, .bool false, .bool false, .slice none 0 0] 43)).alloc (.cells #[.bool false, .bool false, .int .u8 0, .bool false, .int .u8 0, .int .u32 0, .bool false, .int .u16 0, .bool false, .int .u8 0, .int .u8 0, .bool false, .bool false, .bool false, .slice none 0 0] 43)).drew.heap[W.heap.size + 1]? = some (.cells #[.bool false, .bool false, .int .u8 0, .bool false, .int .u8 0, .int .u32 0, .bool false, .int .u16 0, .bool false, .int .u8 0, .int .u8 0, .bool false, .bool false, .bool false, .slice none 0 0] 43) := heap_alloc2_new W _ _
    refine wp_store_agg 43 (.tmp 5) (.tmp 9) rfl (W.heap.size) 0 rfl (x.ci v) rfl (by kernel_rfl) z5 (Nat.le_refl 15) HV.out ?_
    refine hK _ _ (((hS0.alloc _).alloc _).trans (Upd.setsO _ (W.heap.size) 0 (x.ci v)) (fun k hk e => by have : k = W.heap.size := e; omega)) ?_
    clear hK K
    have y5 := blk_setCells0 (cs := x.ci v) z5 rfl
    have y6 := (Upd.setsO _ (W.heap.size) 0 (x.ci v)).blk z6 (not_only (by omega))
    have yU : Upd No W _ := ((((Upd.refl No W).alloc (.cells #[.bool false, .bool false, .int .u8 0, .bool false, .int .u8 0, .int .u32 0, .bool false, .int .u16 0, .bool false, .int .u8 0, .int .u8 0, .bool false, .bool false, .bool false, .slice none 0 0] 43)).alloc (.cells #[.bool false, .bool false, .int .u8 0, .bool false, .int .u8 0, .int .u32 0, .bool false, .int .u16 0, .bool false, .int .u8 0, .int .u8 0, .bool false, .bool false, .bool false, .slice none 0 0] 43)).drew).trans (Upd.setsO _ (W.heap.size) 0 (x.ci v)) (fun k hk e => by have : k = W.heap.size := e; omega)
    clear z5 z6
    refine wpAnyH_done (by kernel_rfl) (headQ_normal ?_) _
    simp only [Act.put, List.drop_succ_cons, List.drop_zero]
    refine wpList_store_agg rfl 43 (.tmp 6) (.tmp 11) rfl (W.heap.size + 1) 0 rfl (y.ci u) rfl (by kernel_rfl) y6 (Nat.le_refl 15) HU.out ?_
    have x6 := blk_setCells0 (cs := y.ci u) y6 rfl
    have x5 := (Upd.setsO _ (W.heap.size + 1) 0 (y.ci u)).blk y5 (not_only (by omega))
    have xU := yU.trans (Upd.setsO _ (W.heap.size + 1) 0 (y.ci u)) (fun k hk e => by have : k = W.heap.size + 1 := e; omega)
    clear y5 y6 yU
    revert x5 x6 xU
    generalize World.setCells _ (W.heap.size + 1) 0 (y.ci u) = W2
    intro x6 x5 xU
    generalize h6 : W.heap.size + 1 = b6 at *
    generalize h5 : W.heap.size = b5 at *
    have f0 := xU.blk e0 (fun f => f)
    have f1 := xU.blk e1 (fun f => f)
    have f2 := xU.blk e2 (fun f => f)
    have fU := eU.then0 xU
    have fS : w.heap.size + 3 ≤ W2.heap.size := by have := xU.size; omega
    have H5 := Lib.hid h5
    have H6 := Lib.hid h6
    clear h5 h6 eU xU hS0 e0 e1 e2 HW eS
    obtain ⟨k5, k5f⟩ := blk_walk x5
    obtain ⟨k6, k6f⟩ := blk_walk x6
    simp only [En.ci] at k5 k6
    have hb5 := blk_lt x5
    have hb6 := blk_lt x6
    have hN0 : w.heap.size < W2.heap.size := by omega
    have hN2 : w.heap.size + 2 < W2.heap.size := by omega
    clear x5 x6
    cases hxk : x.known
    · try rw [hxk] at k5
      as_aux_lemma =>
        go_wp2_with (first
          | (refine wpList_at (.store 43 (.tmp 32) (.tmp 31)) rfl ?_; refine wpList_store_agg rfl 43 (.tmp 32) (.tmp 31) rfl w.heap.size 2 rfl ((noteJ x false (0) false).ci (.slice none 0 0)) rfl (by kernel_rfl) (blk_alloc f0 _) (Nat.le_refl 17) (noteJ_oneI _ _ _ _) ?_; have g0 := noteJ_set (x := x) (kn := false) (td := 0) (dr := false) (blk_alloc f0 (.cells #[.bool true, .bool false, .int .u8 (0), .bool false, .int .u8 0, .int .u32 0, .bool false, .int .u16 0, .bool false, .int .u8 0, .int .u8 0, .bool false, .bool false, .bool false, .slice none 0 0] 43)); have g2 := (Upd.setsO (W2.alloc (.cells #[.bool true, .bool false, .int .u8 (0), .bool false, .int .u8 0, .int .u32 0, .bool false, .int .u16 0, .bool false, .int .u8 0, .int .u8 0, .bool false, .bool false, .bool false, .slice none 0 0] 43)) w.heap.size 2 ((noteJ x false (0) false).ci (.slice none 0 0))).blk (blk_alloc f2 (.cells #[.bool true, .bool false, .int .u8 (0), .bool false, .int .u8 0, .int .u32 0, .bool false, .int .u16 0, .bool false, .int .u8 0, .int .u8 0, .bool false, .bool false, .bool false, .slice none 0 0] 43)) (not_only (show w.heap.size + 2 ≠ w.heap.size by omega)))
          | (refine wpList_at (.load 45 (.tmp 2)) rfl ?_; refine wpList_load_agg rfl 45 (.tmp 2) rfl w.heap.size 0 rfl ((noteJ x false (0) false).c (.slice none 0 0)) _ Try.underlying45 rfl (by kernel_rfl) (all_cells g0) ?_)
          | (refine wpList_at (.store 45 (.tmp 4) (.tmp 33)) rfl ?_; refine wpList_store_agg rfl 45 (.tmp 4) (.tmp 33) rfl (w.heap.size + 2) 0 rfl ((noteJ x false (0) false).c (.slice none 0 0)) rfl (by kernel_rfl) g2 (Nat.le_refl 17) (noteJ_one _ _ _ _) ?_))
        refine bodyPost_ret (results_cell_row (P := Try.prog) (fn := Try.f77) rfl _ _ _ _ _ _ _ rfl (blk_setCells0 (cs := (noteJ x false (0) false).c (.slice none 0 0)) g2 rfl) Try.underlying45 rfl (by kernel_rfl)) rfl (Gives.mk ⟨by rw [show joinedE x y = (noteJ x false (0) false) from by unfold joinedE; rw [hxk]; rfl], ?_⟩)
        exact ((fU.alloc (.cells #[.bool true, .bool false, .int .u8 (0), .bool false, .int .u8 0, .int .u32 0, .bool false, .int .u16 0, .bool false, .int .u8 0, .int .u8 0, .bool false, .bool false, .bool false, .slice none 0 0] 43)).trans (Upd.setsO _ w.heap.size 2 ((noteJ x false (0) false).ci (.slice none 0 0))) (fun k hk e => by have : k = w.heap.size := e; omega)).trans (Upd.setsO _ (w.heap.size + 2) 0 ((noteJ x false (0) false).c (.slice none 0 0))) (fun k hk e => by have : k = w.heap.size + 2 := e; omega)
    cases hyk : y.known
    · try rw [hyk] at k6
      as_aux_lemma =>
        go_wp2_with (first
          | (refine wpList_at (.store 43 (.tmp 32) (.tmp 31)) rfl ?_; refine wpList_store_agg rfl 43 (.tmp 32) (.tmp 31) rfl w.heap.size 2 rfl ((noteJ x false (0) false).ci (.slice none 0 0)) rfl (by kernel_rfl) (blk_alloc f0 _) (Nat.le_refl 17) (noteJ_oneI _ _ _ _) ?_; have g0 := noteJ_set (x := x) (kn := false) (td := 0) (dr := false) (blk_alloc f0 (.cells #[.bool true, .bool false, .int .u8 (0), .bool false, .int .u8 0, .int .u32 0, .bool false, .int .u16 0, .bool false, .int .u8 0, .int .u8 0, .bool false, .bool false, .bool false, .slice none 0 0] 43)); have g2 := (Upd.setsO (W2.alloc (.cells #[.bool true, .bool false, .int .u8 (0), .bool false, .int .u8 0, .int .u32 0, .bool false, .int .u16 0, .bool false, .int .u8 0, .int .u8 0, .bool false, .bool false, .bool false, .slice none 0 0] 43)) w.heap.size 2 ((noteJ x false (0) false).ci (.slice none 0 0))).blk (blk_alloc f2 (.cells #[.bool true, .bool false, .int .u8 (0), .bool false, .int .u8 0, .int .u32 0, .bool false, .int .u16 0, .bool false, .int .u8 0, .int .u8 0, .bool false, .bool false, .bool false, .slice none 0 0] 43)) (not_only (show w.heap.size + 2 ≠ w.heap.size by omega)))
          | (refine wpList_at (.load 45 (.tmp 2)) rfl ?_; refine wpList_load_agg rfl 45 (.tmp 2) rfl w.heap.size 0 rfl ((noteJ x false (0) false).c (.slice none 0 0)) _ Try.underlying45 rfl (by kernel_rfl) (all_cells g0) ?_)
          | (refine wpList_at (.store 45 (.tmp 4) (.tmp 33)) rfl ?_; refine wpList_store_agg rfl 45 (.tmp 4) (.tmp 33) rfl (w.heap.size + 2) 0 rfl ((noteJ x false (0) false).c (.slice none 0 0)) rfl (by kernel_rfl) g2 (Nat.le_refl 17) (noteJ_one _ _ _ _) ?_))
        refine bodyPost_ret (results_cell_row (P := Try.prog) (fn := Try.f77) rfl _ _ _ _ _ _ _ rfl (blk_setCells0 (cs := (noteJ x false (0) false).c (.slice none 0 0)) g2 rfl) Try.underlying45 rfl (by kernel_rfl)) rfl (Gives.mk ⟨by rw [show joinedE x y = (noteJ x false (0) false) from by unfold joinedE; rw [hxk, hyk]; rfl], ?_⟩)
        exact ((fU.alloc (.cells #[.bool true, .bool false, .int .u8 (0), .bool false, .int .u8 0, .int .u32 0, .bool false, .int .u16 0, .bool false, .int .u8 0, .int .u8 0, .bool false, .bool false, .bool false, .slice none 0 0] 43)).trans (Upd.setsO _ w.heap.size 2 ((noteJ x false (0) false).ci (.slice none 0 0))) (fun k hk e => by have : k = w.heap.size := e; omega)).trans (Upd.setsO _ (w.heap.size + 2) 0 ((noteJ x false (0) false).c (.slice none 0 0))) (fun k hk e => by have : k = w.heap.size + 2 := e; omega)
    cases hxd : x.drop
    · try rw [hxd] at k5
      by_cases hlt : y.tid < x.tid
      · skip
        as_aux_lemma =>
          go_wp2_with (first
            | (refine wpList_at (.store 43 (.tmp 32) (.tmp 31)) rfl ?_; refine wpList_store_agg rfl 43 (.tmp 32) (.tmp 31) rfl w.heap.size 2 rfl ((noteJ x true (y.tid) false).ci (.slice none 0 0)) rfl (by kernel_rfl) (blk_alloc f0 _) (Nat.le_refl 17) (noteJ_oneI _ _ _ _) ?_; have g0 := noteJ_set (x := x) (kn := true) (td := y.tid) (dr := false) (blk_alloc f0 (.cells #[.bool true, .bool true, .int .u8 (y.tid), .bool false, .int .u8 0, .int .u32 0, .bool false, .int .u16 0, .bool false, .int .u8 0, .int .u8 0, .bool false, .bool false, .bool false, .slice none 0 0] 43)); have g2 := (Upd.setsO (W2.alloc (.cells #[.bool true, .bool true, .int .u8 (y.tid), .bool false, .int .u8 0, .int .u32 0, .bool false, .int .u16 0, .bool false, .int .u8 0, .int .u8 0, .bool false, .bool false, .bool false, .slice none 0 0] 43)) w.heap.size 2 ((noteJ x true (y.tid) false).ci (.slice none 0 0))).blk (blk_alloc f2 (.cells #[.bool true, .bool true, .int .u8 (y.tid), .bool false, .int .u8 0, .int .u32 0, .bool false, .int .u16 0, .bool false, .int .u8 0, .int .u8 0, .bool false, .bool false, .bool false, .slice none 0 0] 43)) (not_only (show w.heap.size + 2 ≠ w.heap.size by omega)))
            | (refine wpList_at (.load 45 (.tmp 2)) rfl ?_; refine wpList_load_agg rfl 45 (.tmp 2) rfl w.heap.size 0 rfl ((noteJ x true (y.tid) false).c (.slice none 0 0)) _ Try.underlying45 rfl (by kernel_rfl) (all_cells g0) ?_)
            | (refine wpList_at (.store 45 (.tmp 4) (.tmp 33)) rfl ?_; refine wpList_store_agg rfl 45 (.tmp 4) (.tmp 33) rfl (w.heap.size + 2) 0 rfl ((noteJ x true (y.tid) false).c (.slice none 0 0)) rfl (by kernel_rfl) g2 (Nat.le_refl 17) (noteJ_one _ _ _ _) ?_))
          refine bodyPost_ret (results_cell_row (P := Try.prog) (fn := Try.f77) rfl _ _ _ _ _ _ _ rfl (blk_setCells0 (cs := (noteJ x true (y.tid) false).c (.slice none 0 0)) g2 rfl) Try.underlying45 rfl (by kernel_rfl)) rfl (Gives.mk ⟨by rw [show joinedE x y = (noteJ x true (y.tid) false) from by unfold joinedE mn; rw [hxk, hyk, hxd, if_pos (show y.tid < x.tid by omega)]; rfl], ?_⟩)
          exact ((fU.alloc (.cells #[.bool true, .bool true, .int .u8 (y.tid), .bool false, .int .u8 0, .int .u32 0, .bool false, .int .u16 0, .bool false, .int .u8 0, .int .u8 0, .bool false, .bool false, .bool false, .slice none 0 0] 43)).trans (Upd.setsO _ w.heap.size 2 ((noteJ x true (y.tid) false).ci (.slice none 0 0))) (fun k hk e => by have : k = w.heap.size := e; omega)).trans (Upd.setsO _ (w.heap.size + 2) 0 ((noteJ x true (y.tid) false).c (.slice none 0 0))) (fun k hk e => by have : k = w.heap.size + 2 := e; omega)
      · skip
        as_aux_lemma =>
          go_wp2_with (first
            | (refine wpList_at (.store 43 (.tmp 32) (.tmp 31)) rfl ?_; refine wpList_store_agg rfl 43 (.tmp 32) (.tmp 31) rfl w.heap.size 2 rfl ((noteJ x true (x.tid) false).ci (.slice none 0 0)) rfl (by kernel_rfl) (blk_alloc f0 _) (Nat.le_refl 17) (noteJ_oneI _ _ _ _) ?_; have g0 := noteJ_set (x := x) (kn := true) (td := x.tid) (dr := false) (blk_alloc f0 (.cells #[.bool true, .bool true, .int .u8 (x.tid), .bool false, .int .u8 0, .int .u32 0, .bool false, .int .u16 0, .bool false, .int .u8 0, .int .u8 0, .bool false, .bool false, .bool false, .slice none 0 0] 43)); have g2 := (Upd.setsO (W2.alloc (.cells #[.bool true, .bool true, .int .u8 (x.tid), .bool false, .int .u8 0, .int .u32 0, .bool false, .int .u16 0, .bool false, .int .u8 0, .int .u8 0, .bool false, .bool false, .bool false, .slice none 0 0] 43)) w.heap.size 2 ((noteJ x true (x.tid) false).ci (.slice none 0 0))).blk (blk_alloc f2 (.cells #[.bool true, .bool true, .int .u8 (x.tid), .bool false, .int .u8 0, .int .u32 0, .bool false, .int .u16 0, .bool false, .int .u8 0, .int .u8 0, .bool false, .bool false, .bool false, .slice none 0 0] 43)) (not_only (show w.heap.size + 2 ≠ w.heap.size by omega)))
            | (refine wpList_at (.load 45 (.tmp 2)) rfl ?_; refine wpList_load_agg rfl 45 (.tmp 2) rfl w.heap.size 0 rfl ((noteJ x true (x.tid) false).c (.slice none 0 0)) _ Try.underlying45 rfl (by kernel_rfl) (all_cells g0) ?_)
            | (refine wpList_at (.store 45 (.tmp 4) (.tmp 33)) rfl ?_; refine wpList_store_agg rfl 45 (.tmp 4) (.tmp 33) rfl (w.heap.size + 2) 0 rfl ((noteJ x true (x.tid) false).c (.slice none 0 0)) rfl (by kernel_rfl) g2 (Nat.le_refl 17) (noteJ_one _ _ _ _) ?_))
          refine bodyPost_ret (results_cell_row (P := Try.prog) (fn := Try.f77) rfl _ _ _ _ _ _ _ rfl (blk_setCells0 (cs := (noteJ x true (x.tid) false).c (.slice none 0 0)) g2 rfl) Try.underlying45 rfl (by kernel_rfl)) rfl (Gives.mk ⟨by rw [show joinedE x y = (noteJ x true (x.tid) false) from by unfold joinedE mn; rw [hxk, hyk, hxd, if_neg (show ¬ y.tid < x.tid by omega)]; rfl], ?_⟩)
          exact ((fU.alloc (.cells #[.bool true, .bool true, .int .u8 (x.tid), .bool false, .int .u8 0, .int .u32 0, .bool false, .int .u16 0, .bool false, .int .u8 0, .int .u8 0, .bool false, .bool false, .bool false, .slice none 0 0] 43)).trans (Upd.setsO _ w.heap.size 2 ((noteJ x true (x.tid) false).ci (.slice none 0 0))) (fun k hk e => by have : k = w.heap.size := e; omega)).trans (Upd.setsO _ (w.heap.size + 2) 0 ((noteJ x true (x.tid) false).c (.slice none 0 0))) (fun k hk e => by have : k = w.heap.size + 2 := e; omega)
    · try rw [hxd] at k5
      by_cases hlt : y.tid < x.tid
      · skip
        as_aux_lemma =>
          go_wp2_with (first
            | (refine wpList_at (.store 43 (.tmp 32) (.tmp 31)) rfl ?_; refine wpList_store_agg rfl 43 (.tmp 32) (.tmp 31) rfl w.heap.size 2 rfl ((noteJ x true (y.tid) y.drop).ci (.slice none 0 0)) rfl (by kernel_rfl) (blk_alloc f0 _) (Nat.le_refl 17) (noteJ_oneI _ _ _ _) ?_; have g0 := noteJ_set (x := x) (kn := true) (td := y.tid) (dr := y.drop) (blk_alloc f0 (.cells #[.bool true, .bool true, .int .u8 (y.tid), .bool y.drop, .int .u8 0, .int .u32 0, .bool false, .int .u16 0, .bool false, .int .u8 0, .int .u8 0, .bool false, .bool false, .bool false, .slice none 0 0] 43)); have g2 := (Upd.setsO (W2.alloc (.cells #[.bool true, .bool true, .int .u8 (y.tid), .bool y.drop, .int .u8 0, .int .u32 0, .bool false, .int .u16 0, .bool false, .int .u8 0, .int .u8 0, .bool false, .bool false, .bool false, .slice none 0 0] 43)) w.heap.size 2 ((noteJ x true (y.tid) y.drop).ci (.slice none 0 0))).blk (blk_alloc f2 (.cells #[.bool true, .bool true, .int .u8 (y.tid), .bool y.drop, .int .u8 0, .int .u32 0, .bool false, .int .u16 0, .bool false, .int .u8 0, .int .u8 0, .bool false, .bool false, .bool false, .slice none 0 0] 43)) (not_only (show w.heap.size + 2 ≠ w.heap.size by omega)))
            | (refine wpList_at (.load 45 (.tmp 2)) rfl ?_; refine wpList_load_agg rfl 45 (.tmp 2) rfl w.heap.size 0 rfl ((noteJ x true (y.tid) y.drop).c (.slice none 0 0)) _ Try.underlying45 rfl (by kernel_rfl) (all_cells g0) ?_)
            | (refine wpList_at (.store 45 (.tmp 4) (.tmp 33)) rfl ?_; refine wpList_store_agg rfl 45 (.tmp 4) (.tmp 33) rfl (w.heap.size + 2) 0 rfl ((noteJ x true (y.tid) y.drop).c (.slice none 0 0)) rfl (by kernel_rfl) g2 (Nat.le_refl 17) (noteJ_one _ _ _ _) ?_))
          refine bodyPost_ret (results_cell_row (P := Try.prog) (fn := Try.f77) rfl _ _ _ _ _ _ _ rfl (blk_setCells0 (cs := (noteJ x true (y.tid) y.drop).c (.slice none 0 0)) g2 rfl) Try.underlying45 rfl (by kernel_rfl)) rfl (Gives.mk ⟨by rw [show joinedE x y = (noteJ x true (y.tid) y.drop) from by unfold joinedE mn; rw [hxk, hyk, hxd, if_pos (show y.tid < x.tid by omega)]; rfl], ?_⟩)
          exact ((fU.alloc (.cells #[.bool true, .bool true, .int .u8 (y.tid), .bool y.drop, .int .u8 0, .int .u32 0, .bool false, .int .u16 0, .bool false, .int .u8 0, .int .u8 0, .bool false, .bool false, .bool false, .slice none 0 0] 43)).trans (Upd.setsO _ w.heap.size 2 ((noteJ x true (y.tid) y.drop).ci (.slice none 0 0))) (fun k hk e => by have : k = w.heap.size := e; omega)).trans (Upd.setsO _ (w.heap.size + 2) 0 ((noteJ x true (y.tid) y.drop).c (.slice none 0 0))) (fun k hk e => by have : k = w.heap.size + 2 := e; omega)
      · skip
        as_aux_lemma =>
          go_wp2_with (first
            | (refine wpList_at (.store 43 (.tmp 32) (.tmp 31)) rfl ?_; refine wpList_store_agg rfl 43 (.tmp 32) (.tmp 31) rfl w.heap.size 2 rfl ((noteJ x true (x.tid) y.drop).ci (.slice none 0 0)) rfl (by kernel_rfl) (blk_alloc f0 _) (Nat.le_refl 17) (noteJ_oneI _ _ _ _) ?_; have g0 := noteJ_set (x := x) (kn := true) (td := x.tid) (dr := y.drop) (blk_alloc f0 (.cells #[.bool true, .bool true, .int .u8 (x.tid), .bool y.drop, .int .u8 0, .int .u32 0, .bool false, .int .u16 0, .bool false, .int .u8 0, .int .u8 0, .bool false, .bool false, .bool false, .slice none 0 0] 43)); have g2 := (Upd.setsO (W2.alloc (.cells #[.bool true, .bool true, .int .u8 (x.tid), .bool y.drop, .int .u8 0, .int .u32 0, .bool false, .int .u16 0, .bool false, .int .u8 0, .int .u8 0, .bool false, .bool false, .bool false, .slice none 0 0] 43)) w.heap.size 2 ((noteJ x true (x.tid) y.drop).ci (.slice none 0 0))).blk (blk_alloc f2 (.cells #[.bool true, .bool true, .int .u8 (x.tid), .bool y.drop, .int .u8 0, .int .u32 0, .bool false, .int .u16 0, .bool false, .int .u8 0, .int .u8 0, .bool false, .bool false, .bool false, .slice none 0 0] 43)) (not_only (show w.heap.size + 2 ≠ w.heap.size by omega)))
            | (refine wpList_at (.load 45 (.tmp 2)) rfl ?_; refine wpList_load_agg rfl 45 (.tmp 2) rfl w.heap.size 0 rfl ((noteJ x true (x.tid) y.drop).c (.slice none 0 0)) _ Try.underlying45 rfl (by kernel_rfl) (all_cells g0) ?_)
            | (refine wpList_at (.store 45 (.tmp 4) (.tmp 33)) rfl ?_; refine wpList_store_agg rfl 45 (.tmp 4) (.tmp 33) rfl (w.heap.size + 2) 0 rfl ((noteJ x true (x.tid) y.drop).c (.slice none 0 0)) rfl (by kernel_rfl) g2 (Nat.le_refl 17) (noteJ_one _ _ _ _) ?_))
          refine bodyPost_ret (results_cell_row (P := Try.prog) (fn := Try.f77) rfl _ _ _ _ _ _ _ rfl (blk_setCells0 (cs := (noteJ x true (x.tid) y.drop).c (.slice none 0 0)) g2 rfl) Try.underlying45 rfl (by kernel_rfl)) rfl (Gives.mk ⟨by rw [show joinedE x y = (noteJ x true (x.tid) y.drop) from by unfold joinedE mn; rw [hxk, hyk, hxd, if_neg (show ¬ y.tid < x.tid by omega)]; rfl], ?_⟩)
          exact ((fU.alloc (.cells #[.bool true, .bool true, .int .u8 (x.tid), .bool y.drop, .int .u8 0, .int .u32 0, .bool false, .int .u16 0, .bool false, .int .u8 0, .int .u8 0, .bool false, .bool false, .bool false, .slice none 0 0] 43)).trans (Upd.setsO _ w.heap.size 2 ((noteJ x true (x.tid) y.drop).ci (.slice none 0 0))) (fun k hk e => by have : k = w.heap.size := e; omega)).trans (Upd.setsO _ (w.heap.size + 2) 0 ((noteJ x true (x.tid) y.drop).c (.slice none 0 0))) (fun k hk e => by have : k = w.heap.size + 2 := e; omega)
  · simp only [List.take_succ_cons, List.take_zero, List.getElem?_toArray, List.getElem?_cons_succ, List.getElem?_cons_zero, Option.some.injEq] at ho; subst ho; refine if_take (by rfl) ?_
    go_simp
    refine hK _ _ (hS0.alloc _) ?_
    clear hK K
    refine do_one 4 (by kernel_rfl) ?_
    intro o ho; simp only [List.take_succ_cons, List.take_zero, List.getElem?_toArray, List.getElem?_cons_succ, List.getElem?_cons_zero, Option.some.injEq] at ho; subst ho; intro K hK; refine if_take (by rfl) ?_
    go_simp
    refine hK _ _ ((hS0.alloc _).alloc _) ?_
    clear hK K
    refine do_one 6 (by kernel_rfl) ?_
    intro o ho; simp only [List.take_succ_cons, List.take_zero, List.getElem?_toArray, List.getElem?_cons_succ, List.getElem?_cons_zero, Option.some.injEq] at ho; subst ho; intro K hK; refine if_take (by rfl) ?_
    rw [← eS]
    have z5 : ((W.alloc (.cells #[.bool false, .bool false, .int .u8 0, .bool false, .int .u8 0, .int .u32 0, .bool false, .int .u16 0, .bool false, .int .u8 0, .int .u8 0, .bool false, .bool false, .bool false, .slice none 0 0] 43)).alloc (.cells #[.bool false, .bool false, .int .u8 0, .bool false, .int .u8 0, .int .u32 0, .bool false, .int .u16 0, .bool false, .int .u8 0, .int .u8 0, .bool false, .bool false, .bool false, .slice none 0 0] 43)).drew.heap[W.heap.size + 1]? = some (.cells #[.bool false, .bool false, .int .u8 0, .bool false, .int .u8 0, .int .u32 0, .bool false, .int .u16 0, .bool false, .int .u8 0, .int .u8 0, .bool false, .bool false, .bool false, .slice none 0 0] 43) := heap_alloc2_new W _ _
    have z6 : ((W.alloc (.cells #[.bool false, .bool false, .int .u8 0, .bool false, .int .u8 0, .int .u32 0, .bool false, .int .u16 0, .bool false, .int .u8 0, .int .u8 0, .bool false, .bool false, .bool false, .slice none 0 0] 43)).alloc (.cells #[.bool false, .bool false, .int .u8 0, .bool false, .int .u8 0, .int .u32 0, .bool false, .int .u16 0, .bool false, .int .u8 0, .int .u8 0, .bool false, .bool false, .bool false, .slice none 0 0] 43)).drew.heap[W.heap.size]? = some (.cells #[.bool false, .bool false, .int .u8 0, .bool false, .int .u8 0, .int .u32 0, .bool false, .int .u16 0, .bool false, .int .u8 0, .int .u8 0, .bool false, .bool false, .bool false, .slice none 0 0] 43) := blk_alloc (blk_new W _) _
    refine wp_store_agg 43 (.tmp 5) (.tmp 9) rfl (W.heap.size + 1) 0 rfl (x.ci v) rfl (by kernel_rfl) z5 (Nat.le_refl 15) HV.out ?_
    refine hK _ _ (((hS0.alloc _).alloc _).trans (Upd.setsO _ (W.heap.size + 1) 0 (x.ci v)) (fun k hk e => by have : k = W.heap.size + 1 := e; omega)) ?_
    clear hK K
    have y5 := blk_setCells0 (cs := x.ci v) z5 rfl
    have y6 := (Upd.setsO _ (W.heap.size + 1) 0 (x.ci v)).blk z6 (not_only (by omega))
    have yU : Upd No W _ := ((((Upd.refl No W).alloc (.cells #[.bool false, .bool false, .int .u8 0, .bool false, .int .u8 0, .int .u32 0, .bool false, .int .u16 0, .bool false, .int .u8 0, .int .u8 0, .bool false, .bool false, .bool false, .slice none 0 0] 43)).alloc (.cells #[.bool false, .bool false, .int .u8 0, .bool false, .int .u8 0, .int .u32 0, .bool false, .int .u16 0, .bool false, .int .u8 0, .int .u8 0, .bool false, .bool false, .bool false, .slice none 0 0] 43)).drew).trans (Upd.setsO _ (W.heap.size + 1) 0 (x.ci v)) (fun k hk e => by have : k = W.heap.size + 1 := e; omega)
    clear z5 z6
    refine wpAnyH_done (by kernel_rfl) (headQ_normal ?_) _
    simp only [Act.put, List.drop_succ_cons, List.drop_zero]
    refine wpList_store_agg rfl 43 (.tmp 6) (.tmp 11) rfl (W.heap.size) 0 rfl (y.ci u) rfl (by kernel_rfl) y6 (Nat.le_refl 15) HU.out ?_
    have x6 := blk_setCells0 (cs := y.ci u) y6 rfl
    have x5 := (Upd.setsO _ (W.heap.size) 0 (y.ci u)).blk y5 (not_only (by omega))
    have xU := yU.trans (Upd.setsO _ (W.heap.size) 0 (y.ci u)) (fun k hk e => by have : k = W.heap.size := e; omega)
    clear y5 y6 yU
    revert x5 x6 xU
    generalize World.setCells _ (W.heap.size) 0 (y.ci u) = W2
    intro x6 x5 xU
    generalize h5 : W.heap.size + 1 = b5 at *
    generalize h6 : W.heap.size = b6 at *
    have f0 := xU.blk e0 (fun f => f)
    have f1 := xU.blk e1 (fun f => f)
    have f2 := xU.blk e2 (fun f => f)
    have fU := eU.then0 xU
    have fS : w.heap.size + 3 ≤ W2.heap.size := by have := xU.size; omega
    have H5 := Lib.hid h5
    have H6 := Lib.hid h6
    clear h5 h6 eU xU hS0 e0 e1 e2 HW eS
    obtain ⟨k5, k5f⟩ := blk_walk x5
    obtain ⟨k6, k6f⟩ := blk_walk x6
    simp only [En.ci] at k5 k6
    have hb5 := blk_lt x5
    have hb6 := blk_lt x6
    have hN0 : w.heap.size < W2.heap.size := by omega
    have hN2 : w.heap.size + 2 < W2.heap.size := by omega
    clear x5 x6
    cases hxk : x.known
    · try rw [hxk] at k5
      as_aux_lemma =>
        go_wp2_with (first
          | (refine wpList_at (.store 43 (.tmp 32) (.tmp 31)) rfl ?_; refine wpList_store_agg rfl 43 (.tmp 32) (.tmp 31) rfl w.heap.size 2 rfl ((noteJ x false (0) false).ci (.slice none 0 0)) rfl (by kernel_rfl) (blk_alloc f0 _) (Nat.le_refl 17) (noteJ_oneI _ _ _ _) ?_; have g0 := noteJ_set (x := x) (kn := false) (td := 0) (dr := false) (blk_alloc f0 (.cells #[.bool true, .bool false, .int .u8 (0), .bool false, .int .u8 0, .int .u32 0, .bool false, .int .u16 0, .bool false, .int .u8 0, .int .u8 0, .bool false, .bool false, .bool false, .slice none 0 0] 43)); have g2 := (Upd.setsO (W2.alloc (.cells #[.bool true, .bool false, .int .u8 (0), .bool false, .int .u8 0, .int .u32 0, .bool false, .int .u16 0, .bool false, .int .u8 0, .int .u8 0, .bool false, .bool false, .bool false, .slice none 0 0] 43)) w.heap.size 2 ((noteJ x false (0) false).ci (.slice none 0 0))).blk (blk_alloc f2 (.cells #[.bool true, .bool false, .int .u8 (0), .bool false, .int .u8 0, .int .u32 0, .bool false, .int .u16 0, .bool false, .int .u8 0, .int .u8 0, .bool false, .bool false, .bool false, .slice none 0 0] 43)) (not_only (show w.heap.size + 2 ≠ w.heap.size by omega)))
          | (refine wpList_at (.load 45 (.tmp 2)) rfl ?_; refine wpList_load_agg rfl 45 (.tmp 2) rfl w.heap.size 0 rfl ((noteJ x false (0) false).c (.slice none 0 0)) _ Try.underlying45 rfl (by kernel_rfl) (all_cells g0) ?_)
          | (refine wpList_at (.store 45 (.tmp 4) (.tmp 33)) rfl ?_; refine wpList_store_agg rfl 45 (.tmp 4) (.tmp 33) rfl (w.heap.size + 2) 0 rfl ((noteJ x false (0) false).c (.slice none 0 0)) rfl (by kernel_rfl) g2 (Nat.le_refl 17) (noteJ_one _ _ _ _) ?_))
        refine bodyPost_ret (results_cell_row (P := Try.prog) (fn := Try.f77) rfl _ _ _ _ _ _ _ rfl (blk_setCells0 (cs := (noteJ x false (0) false).c (.slice none 0 0)) g2 rfl) Try.underlying45 rfl (by kernel_rfl)) rfl (Gives.mk ⟨by rw [show joinedE x y = (noteJ x false (0) false) from by unfold joinedE; rw [hxk]; rfl], ?_⟩)
        exact ((fU.alloc (.cells #[.bool true, .bool false, .int .u8 (0), .bool false, .int .u8 0, .int .u32 0, .bool false, .int .u16 0, .bool false, .int .u8 0, .int .u8 0, .bool false, .bool false, .bool false, .slice none 0 0] 43)).trans (Upd.setsO _ w.heap.size 2 ((noteJ x false (0) false).ci (.slice none 0 0))) (fun k hk e => by have : k = w.heap.size := e; omega)).trans (Upd.setsO _ (w.heap.size + 2) 0 ((noteJ x false (0) false).c (.slice none 0 0))) (fun k hk e => by have : k = w.heap.size + 2 := e; omega)
    cases hyk : y.known
    · try rw [hyk] at k6
      as_aux_lemma =>
        go_wp2_with (first
          | (refine wpList_at (.store 43 (.tmp 32) (.tmp 31)) rfl ?_; refine wpList_store_agg rfl 43 (.tmp 32) (.tmp 31) rfl w.heap.size 2 rfl ((noteJ x false (0) false).ci (.slice none 0 0)) rfl (by kernel_rfl) (blk_alloc f0 _) (Nat.le_refl 17) (noteJ_oneI _ _ _ _) ?_; have g0 := noteJ_set (x := x) (kn := false) (td := 0) (dr := false) (blk_alloc f0 (.cells #[.bool true, .bool false, .int .u8 (0), .bool false, .int .u8 0, .int .u32 0, .bool false, .int .u16 0, .bool false, .int .u8 0, .int .u8 0, .bool false, .bool false, .bool false, .slice none 0 0] 43)); have g2 := (Upd.setsO (W2.alloc (.cells #[.bool true, .bool false, .int .u8 (0), .bool false, .int .u8 0, .int .u32 0, .bool false, .int .u16 0, .bool false, .int .u8 0, .int .u8 0, .bool false, .bool false, .bool false, .slice none 0 0] 43)) w.heap.size 2 ((noteJ x false (0) false).ci (.slice none 0 0))).blk (blk_alloc f2 (.cells #[.bool true, .bool false, .int .u8 (0), .bool false, .int .u8 0, .int .u32 0, .bool false, .int .u16 0, .bool false, .int .u8 0, .int .u8 0, .bool false, .bool false, .bool false, .slice none 0 0] 43)) (not_only (show w.heap.size + 2 ≠ w.heap.size by omega)))
          | (refine wpList_at (.load 45 (.tmp 2)) rfl ?_; refine wpList_load_agg rfl 45 (.tmp 2) rfl w.heap.size 0 rfl ((noteJ x false (0) false).c (.slice none 0 0)) _ Try.underlying45 rfl (by kernel_rfl) (all_cells g0) ?_)
          | (refine wpList_at (.store 45 (.tmp 4) (.tmp 33)) rfl ?_; refine wpList_store_agg rfl 45 (.tmp 4) (.tmp 33) rfl (w.heap.size + 2) 0 rfl ((noteJ x false (0) false).c (.slice none 0 0)) rfl (by kernel_rfl) g2 (Nat.le_refl 17) (noteJ_one _ _ _ _) ?_))
        refine bodyPost_ret (results_cell_row (P := Try.prog) (fn := Try.f77) rfl _ _ _ _ _ _ _ rfl (blk_setCells0 (cs := (noteJ x false (0) false).c (.slice none 0 0)) g2 rfl) Try.underlying45 rfl (by kernel_rfl)) rfl (Gives.mk ⟨by rw [show joinedE x y = (noteJ x false (0) false) from by unfold joinedE; rw [hxk, hyk]; rfl], ?_⟩)
        exact ((fU.alloc (.cells #[.bool true, .bool false, .int .u8 (0), .bool false, .int .u8 0, .int .u32 0, .bool false, .int .u16 0, .bool false, .int .u8 0, .int .u8 0, .bool false, .bool false, .bool false, .slice none 0 0] 43)).trans (Upd.setsO _ w.heap.size 2 ((noteJ x false (0) false).ci (.slice none 0 0))) (fun k hk e => by have : k = w.heap.size := e; omega)).trans (Upd.setsO _ (w.heap.size + 2) 0 ((noteJ x false (0) false).c (.slice none 0 0))) (fun k hk e => by have : k = w.heap.size + 2 := e; omega)
    cases hxd : x.drop
    · try rw [hxd] at k5
      by_cases hlt : y.tid < x.tid
      · skip
        as_aux_lemma =>
          go_wp2_with (first
            | (refine wpList_at (.store 43 (.tmp 32) (.tmp 31)) rfl ?_; refine wpList_store_agg rfl 43 (.tmp 32) (.tmp 31) rfl w.heap.size 2 rfl ((noteJ x true (y.tid) false).ci (.slice none 0 0)) rfl (by kernel_rfl) (blk_alloc f0 _) (Nat.le_refl 17) (noteJ_oneI _ _ _ _) ?_; have g0 := noteJ_set (x := x) (kn := true) (td := y.tid) (dr := false) (blk_alloc f0 (.cells #[.bool true, .bool true, .int .u8 (y.tid), .bool false, .int .u8 0, .int .u32 0, .bool false, .int .u16 0, .bool false, .int .u8 0, .int .u8 0, .bool false, .bool false, .bool false, .slice none 0 0] 43)); have g2 := (Upd.setsO (W2.alloc (.cells #[.bool true, .bool true, .int .u8 (y.tid), .bool false, .int .u8 0, .int .u32 0, .bool false, .int .u16 0, .bool false, .int .u8 0, .int .u8 0, .bool false, .bool false, .bool false, .slice none 0 0] 43)) w.heap.size 2 ((noteJ x true (y.tid) false).ci (.slice none 0 0))).blk (blk_alloc f2 (.cells #[.bool true, .bool true, .int .u8 (y.tid), .bool false, .int .u8 0, .int .u32 0, .bool false, .int .u16 0, .bool false, .int .u8 0, .int .u8 0, .bool false, .bool false, .bool false, .slice none 0 0] 43)) (not_only (show w.heap.size + 2 ≠ w.heap.size by omega)))
            | (refine wpList_at (.load 45 (.tmp 2)) rfl ?_; refine wpList_load_agg rfl 45 (.tmp 2) rfl w.heap.size 0 rfl ((noteJ x true (y.tid) false).c (.slice none 0 0)) _ Try.underlying45 rfl (by kernel_rfl) (all_cells g0) ?_)
            | (refine wpList_at (.store 45 (.tmp 4) (.tmp 33)) rfl ?_; refine wpList_store_agg rfl 45 (.tmp 4) (.tmp 33) rfl (w.heap.size + 2) 0 rfl ((noteJ x true (y.tid) false).c (.slice none 0 0)) rfl (by kernel_rfl) g2 (Nat.le_refl 17) (noteJ_one _ _ _ _) ?_))
          refine bodyPost_ret (results_cell_row (P := Try.prog) (fn := Try.f77) rfl _ _ _ _ _ _ _ rfl (blk_setCells0 (cs := (noteJ x true (y.tid) false).c (.slice none 0 0)) g2 rfl) Try.underlying45 rfl (by kernel_rfl)) rfl (Gives.mk ⟨by rw [show joinedE x y = (noteJ x true (y.tid) false) from by unfold joinedE mn; rw [hxk, hyk, hxd, if_pos (show y.tid < x.tid by omega)]; rfl], ?_⟩)
          exact ((fU.alloc (.cells #[.bool true, .bool true, .int .u8 (y.tid), .bool false, .int .u8 0, .int .u32 0, .bool false, .int .u16 0, .bool false, .int .u8 0, .int .u8 0, .bool false, .bool false, .bool false, .slice none 0 0] 43)).trans (Upd.setsO _ w.heap.size 2 ((noteJ x true (y.tid) false).ci (.slice none 0 0))) (fun k hk e => by have : k = w.heap.size := e; omega)).trans (Upd.setsO _ (w.heap.size + 2) 0 ((noteJ x true (y.tid) false).c (.slice none 0 0))) (fun k hk e => by have : k = w.heap.size + 2 := e; omega)
      · skip
        as_aux_lemma =>
          go_wp2_with (first
            | (refine wpList_at (.store 43 (.tmp 32) (.tmp 31)) rfl ?_; refine wpList_store_agg rfl 43 (.tmp 32) (.tmp 31) rfl w.heap.size 2 rfl ((noteJ x true (x.tid) false).ci (.slice none 0 0)) rfl (by kernel_rfl) (blk_alloc f0 _) (Nat.le_refl 17) (noteJ_oneI _ _ _ _) ?_; have g0 := noteJ_set (x := x) (kn := true) (td := x.tid) (dr := false) (blk_alloc f0 (.cells #[.bool true, .bool true, .int .u8 (x.tid), .bool false, .int .u8 0, .int .u32 0, .bool false, .int .u16 0, .bool false, .int .u8 0, .int .u8 0, .bool false, .bool false, .bool false, .slice none 0 0] 43)); have g2 := (Upd.setsO (W2.alloc (.cells #[.bool true, .bool true, .int .u8 (x.tid), .bool false, .int .u8 0, .int .u32 0, .bool false, .int .u16 0, .bool false, .int .u8 0, .int .u8 0, .bool false, .bool false, .bool false, .slice none 0 0] 43)) w.heap.size 2 ((noteJ x true (x.tid) false).ci (.slice none 0 0))).blk (blk_alloc f2 (.cells #[.bool true, .bool true, .int .u8 (x.tid), .bool false, .int .u8 0, .int .u32 0, .bool false, .int .u16 0, .bool false, .int .u8 0, .int .u8 0, .bool false, .bool false, .bool false, .slice none 0 0] 43)) (not_only (show w.heap.size + 2 ≠ w.heap.size by omega)))
            | (refine wpList_at (.load 45 (.tmp 2)) rfl ?_; refine wpList_load_agg rfl 45 (.tmp 2) rfl w.heap.size 0 rfl ((noteJ x true (x.tid) false).c (.slice none 0 0)) _ Try.underlying45 rfl (by kernel_rfl) (all_cells g0) ?_)
            | (refine wpList_at (.store 45 (.tmp 4) (.tmp 33)) rfl ?_; refine wpList_store_agg rfl 45 (.tmp 4) (.tmp 33) rfl (w.heap.size + 2) 0 rfl ((noteJ x true (x.tid) false).c (.slice none 0 0)) rfl (by kernel_rfl) g2 (Nat.le_refl 17) (noteJ_one _ _ _ _) ?_))
          refine bodyPost_ret (results_cell_row (P := Try.prog) (fn := Try.f77) rfl _ _ _ _ _ _ _ rfl (blk_setCells0 (cs := (noteJ x true (x.tid) false).c (.slice none 0 0)) g2 rfl) Try.underlying45 rfl (by kernel_rfl)) rfl (Gives.mk ⟨by rw [show joinedE x y = (noteJ x true (x.tid) false) from by unfold joinedE mn; rw [hxk, hyk, hxd, if_neg (show ¬ y.tid < x.tid by omega)]; rfl], ?_⟩)
          exact ((fU.alloc (.cells #[.bool true, .bool true, .int .u8 (x.tid), .bool false, .int .u8 0, .int .u32 0, .bool false, .int .u16 0, .bool false, .int .u8 0, .int .u8 0, .bool false, .bool false, .bool false, .slice none 0 0] 43)).trans (Upd.setsO _ w.heap.size 2 ((noteJ x true (x.tid) false).ci (.slice none 0 0))) (fun k hk e => by have : k = w.heap.size := e; omega)).trans (Upd.setsO _ (w.heap.size + 2) 0 ((noteJ x true (x.tid) false).c (.slice none 0 0))) (fun k hk e => by have : k = w.heap.size + 2 := e; omega)
    · try rw [hxd] at k5
      by_cases hlt : y.tid < x.tid
      · skip
        as_aux_lemma =>
          go_wp2_with (first
            | (refine wpList_at (.store 43 (.tmp 32) (.tmp 31)) rfl ?_; refine wpList_store_agg rfl 43 (.tmp 32) (.tmp 31) rfl w.heap.size 2 rfl ((noteJ x true (y.tid) y.drop).ci (.slice none 0 0)) rfl (by kernel_rfl) (blk_alloc f0 _) (Nat.le_refl 17) (noteJ_oneI _ _ _ _) ?_; have g0 := noteJ_set (x := x) (kn := true) (td := y.tid) (dr := y.drop) (blk_alloc f0 (.cells #[.bool true, .bool true, .int .u8 (y.tid), .bool y.drop, .int .u8 0, .int .u32 0, .bool false, .int .u16 0, .bool false, .int .u8 0, .int .u8 0, .bool false, .bool false, .bool false, .slice none 0 0] 43)); have g2 := (Upd.setsO (W2.alloc (.cells #[.bool true, .bool true, .int .u8 (y.tid), .bool y.drop, .int .u8 0, .int .u32 0, .bool false, .int .u16 0, .bool false, .int .u8 0, .int .u8 0, .bool false, .bool false, .bool false, .slice none 0 0] 43)) w.heap.size 2 ((noteJ x true (y.tid) y.drop).ci (.slice none 0 0))).blk (blk_alloc f2 (.cells #[.bool true, .bool true, .int .u8 (y.tid), .bool y.drop, .int .u8 0, .int .u32 0, .bool false, .int .u16 0, .bool false, .int .u8 0, .int .u8 0, .bool false, .bool false, .bool false, .slice none 0 0] 43)) (not_only (show w.heap.size + 2 ≠ w.heap.size by omega)))
            | (refine wpList_at (.load 45 (.tmp 2)) rfl ?_; refine wpList_load_agg rfl 45 (.tmp 2) rfl w.heap.size 0 rfl ((noteJ x true (y.tid) y.drop).c (.slice none 0 0)) _ Try.underlying45 rfl (by kernel_rfl) (all_cells g0) ?_)
            | (refine wpList_at (.store 45 (.tmp 4) (.tmp 33)) rfl ?_; refine wpList_store_agg rfl 45 (.tmp 4) (.tmp 33) rfl (w.heap.size + 2) 0 rfl ((noteJ x true (y.tid) y.drop).c (.slice none 0 0)) rfl (by kernel_rfl) g2 (Nat.le_refl 17) (noteJ_one _ _ _ _) ?_))
          refine bodyPost_ret (results_cell_row (P := Try.prog) (fn := Try.f77) rfl _ _ _ _ _ _ _ rfl (blk_setCells0 (cs := (noteJ x true (y.tid) y.drop).c (.slice none 0 0)) g2 rfl) Try.underlying45 rfl (by kernel_rfl)) rfl (Gives.mk ⟨by rw [show joinedE x y = (noteJ x true (y.tid) y.drop) from by unfold joinedE mn; rw [hxk, hyk, hxd, if_pos (show y.tid < x.tid by omega)]; rfl], ?_⟩)
          exact ((fU.alloc (.cells #[.bool true, .bool true, .int .u8 (y.tid), .bool y.drop, .int .u8 0, .int .u32 0, .bool false, .int .u16 0, .bool false, .int .u8 0, .int .u8 0, .bool false, .bool false, .bool false, .slice none 0 0] 43)).trans (Upd.setsO _ w.heap.size 2 ((noteJ x true (y.tid) y.drop).ci (.slice none 0 0))) (fun k hk e => by have : k = w.heap.size := e; omega)).trans (Upd.setsO _ (w.heap.size + 2) 0 ((noteJ x true (y.tid) y.drop).c (.slice none 0 0))) (fun k hk e => by have : k = w.heap.size + 2 := e; omega)
      · skip
        as_aux_lemma =>
          go_wp2_with (first
            | (refine wpList_at (.store 43 (.tmp 32) (.tmp 31)) rfl ?_; refine wpList_store_agg rfl 43 (.tmp 32) (.tmp 31) rfl w.heap.size 2 rfl ((noteJ x true (x.tid) y.drop).ci (.slice none 0 0)) rfl (by kernel_rfl) (blk_alloc f0 _) (Nat.le_refl 17) (noteJ_oneI _ _ _ _) ?_; have g0 := noteJ_set (x := x) (kn := true) (td := x.tid) (dr := y.drop) (blk_alloc f0 (.cells #[.bool true, .bool true, .int .u8 (x.tid), .bool y.drop, .int .u8 0, .int .u32 0, .bool false, .int .u16 0, .bool false, .int .u8 0, .int .u8 0, .bool false, .bool false, .bool false, .slice none 0 0] 43)); have g2 := (Upd.setsO (W2.alloc (.cells #[.bool true, .bool true, .int .u8 (x.tid), .bool y.drop, .int .u8 0, .int .u32 0, .bool false, .int .u16 0, .bool false, .int .u8 0, .int .u8 0, .bool false, .bool false, .bool false, .slice none 0 0] 43)) w.heap.size 2 ((noteJ x true (x.tid) y.drop).ci (.slice none 0 0))).blk (blk_alloc f2 (.cells #[.bool true, .bool true, .int .u8 (x.tid), .bool y.drop, .int .u8 0, .int .u32 0, .bool false, .int .u16 0, .bool false, .int .u8 0, .int .u8 0, .bool false, .bool false, .bool false, .slice none 0 0] 43)) (not_only (show w.heap.size + 2 ≠ w.heap.size by omega)))
            | (refine wpList_at (.load 45 (.tmp 2)) rfl ?_; refine wpList_load_agg rfl 45 (.tmp 2) rfl w.heap.size 0 rfl ((noteJ x true (x.tid) y.drop).c (.slice none 0 0)) _ Try.underlying45 rfl (by kernel_rfl) (all_cells g0) ?_)
            | (refine wpList_at (.store 45 (.tmp 4) (.tmp 33)) rfl ?_; refine wpList_store_agg rfl 45 (.tmp 4) (.tmp 33) rfl (w.heap.size + 2) 0 rfl ((noteJ x true (x.tid) y.drop).c (.slice none 0 0)) rfl (by kernel_rfl) g2 (Nat.le_refl 17) (noteJ_one _ _ _ _) ?_))
          refine bodyPost_ret (results_cell_row (P := Try.prog) (fn := Try.f77) rfl _ _ _ _ _ _ _ rfl (blk_setCells0 (cs := (noteJ x true (x.tid) y.drop).c (.slice none 0 0)) g2 rfl) Try.underlying45 rfl (by kernel_rfl)) rfl (Gives.mk ⟨by rw [show joinedE x y = (noteJ x true (x.tid) y.drop) from by unfold joinedE mn; rw [hxk, hyk, hxd, if_neg (show ¬ y.tid < x.tid by omega)]; rfl], ?_⟩)
          exact ((fU.alloc (.cells #[.bool true, .bool true, .int .u8 (x.tid), .bool y.drop, .int .u8 0, .int .u32 0, .bool false, .int .u16 0, .bool false, .int .u8 0, .int .u8 0, .bool false, .bool false, .bool false, .slice none 0 0] 43)).trans (Upd.setsO _ w.heap.size 2 ((noteJ x true (x.tid) y.drop).ci (.slice none 0 0))) (fun k hk e => by have : k = w.heap.size := e; omega)).trans (Upd.setsO _ (w.heap.size + 2) 0 ((noteJ x true (x.tid) y.drop).c (.slice none 0 0))) (fun k hk e => by have : k = w.heap.size + 2 := e; omega)
end Go.Proofs.Ytaakmkkgnboedaa
