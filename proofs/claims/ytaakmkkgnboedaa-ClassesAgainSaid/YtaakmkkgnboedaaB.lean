/- Contracts of layer 19: entries one by one. -/
import Derived.Test.YtaakmkkgnboedaaA
namespace Go.Proofs.Ytaakmkkgnboedaa
open Go Go.RowKit Go.Kb
set_option maxRecDepth 100000 in
set_option maxHeartbeats 400000 in
theorem c58 (w : World) (v : Value) (x : En) (F : Nat → Prop) (h : RParts w v x.fr.parts F) (hb : Fits x.fr.parts.length) (hr : ∀ p ∈ x.fr.parts, Fits p.rest.length) :
    Calls Try.prog 58 #[.agg (x.c v).toArray] w (Gives fun r w' => ∃ v', r = .agg (x.c v').toArray ∧ OParts 116 w' v' x.fr.parts (From w.heap.size) ∧ Upd No w w') := by
  go_enter Try.func58, Try.ntmps58
  go_wp2_with (first
    | (refine wpList_at (.load 41 (.tmp 4)) rfl ?_; refine wpList_load_agg rfl 41 (.tmp 4) rfl w.heap.size 6 rfl (x.fr.c v) _ Try.underlying41 rfl (by kernel_rfl) (sub_cells (blk_alloc (blk_new w _) _) (sub_right (a := x.hd) rfl)) ?_)
    | (go_at_call 20; refine (c20 _ v x.fr F (h.keep (((Upd.refl No _).alloc _).alloc _) (fun _ _ _ f => f)) hb hr).mono ?_; rintro e w1 ⟨r, rfl, v', rfl, ho, hu⟩; have b0 := hu.blk (blk_alloc (blk_new w _) _) (fun f => f); have b1 := hu.blk (blk_new (w.alloc _) _) (fun f => f); rw [World.size_alloc] at b1; have hU : Upd No w w1 := (((Upd.refl No _).alloc _).alloc _).then0 hu; replace ho := ho.mono (F' := From (w.heap.size + 2)) (fun k _ hk => by simpa [From] using hk); clear hu; have ho := Lib.hid ho; have hU := Lib.hid hU)
    | (refine wpList_at (.store 41 (.tmp 8) (.tmp 6)) rfl ?_; refine wpList_store_agg rfl 41 (.tmp 8) (.tmp 6) rfl w.heap.size 6 rfl (x.fr.c v') rfl (by kernel_rfl) b0 (Nat.le_refl 17) ho.out.r.oneF ?_; have b2 : (w1.setCells w.heap.size 6 (x.fr.c v')).heap[w.heap.size]? = some (.cells (x.c v').toArray 45 (0, 0)) := En.set_fr b0; have b3 := (Upd.setsO w1 w.heap.size 6 (x.fr.c v')).blk b1 (not_only (by omega)); clear b0 b1)
    | (refine wpList_at (.load 45 (.tmp 1)) rfl ?_; refine wpList_load_agg rfl 45 (.tmp 1) rfl w.heap.size 0 rfl (x.c v') _ Try.underlying45 rfl (by kernel_rfl) (all_cells b2) ?_)
    | (refine wpList_at (.store 45 (.tmp 2) (.tmp 9)) rfl ?_; refine wpList_store_agg rfl 45 (.tmp 2) (.tmp 9) rfl (w.heap.size + 1) 0 rfl (x.c v') rfl (by kernel_rfl) b3 (Nat.le_refl 17) ho.out.r.one ?_))
  have b4 := blk_setCells0 b3 (cs := x.c v') rfl
  have u2 := Upd.setsO w1 w.heap.size 6 (x.fr.c v')
  have u3 := Upd.setsO (w1.setCells w.heap.size 6 (x.fr.c v')) (w.heap.size + 1) 0 (x.c v')
  refine bodyPost_ret (results_cell_row (P := Try.prog) (fn := Try.f58) rfl _ _ _ _ _ _ _ rfl b4 Try.underlying45 rfl (by kernel_rfl)) rfl (Gives.mk ⟨_, rfl, ?_, ?_⟩)
  · exact ((OParts.keep ho.out u2 (fun k _ hk e => by have : k = w.heap.size := e; unfold From at *; omega)).keep u3 (fun k _ hk e => by have : k = w.heap.size + 1 := e; unfold From at *; omega)).mono (fun k _ hk => by unfold From at *; omega)
  · exact (hU.out.trans u2 (fun k hk e => by have : k = w.heap.size := e; omega)).trans u3 (fun k hk e => by have : k = w.heap.size + 1 := e; omega)
end Go.Proofs.Ytaakmkkgnboedaa
