/- Contract of layer 19: made. -/
import Derived.Test.YtaakmkkgnboedaaO
import Derived.Test.YtaakmkkgnboedaaM
namespace Go.Proofs.Ytaakmkkgnboedaa
open Go Go.RowKit Go.Kb
/-- The entry of a frame that is made. -/
def madeE (key : Bool) (n g : Int) : En := ⟨g, 0, false, false, 0, false, madeF key n⟩
set_option maxRecDepth 100000 in
set_option maxHeartbeats 400000 in
theorem c33 (key : Bool) (n g : Int) (hn : 0 ≤ n ∧ n < 200) (w : World) :
    Calls Try.prog 33 #[.bool key, .int .i64 n, .int .u64 g] w (Gives fun r w' => ∃ v, r = .agg ((madeE key n g).c v).toArray ∧ OParts 116 w' v (madeF key n).parts (From w.heap.size) ∧ Upd No w w') := by
  go_enter Try.func33, Try.ntmps33
  go_wp2_with (first
    | (go_at_call 37; refine (c37 key n hn _).mono ?_; rintro e w1 ⟨r, rfl, v, rfl, ho, hu⟩; obtain ⟨a1, cap1, hv⟩ := ho.slice; replace hv : v = .slice a1 1 cap1 := hv; subst hv; have HO := Lib.hid ho; have HU := Lib.hid hu; have HB := Lib.hid (hu.blk (blk_new w _) (fun f => f)); clear ho hu; simp only [Fr.c, madeF])
    | (refine wpList_at (.store 45 (.tmp 6) (.tmp 13)) rfl ?_; refine wpList_store_agg rfl 45 (.tmp 6) (.tmp 13) rfl w.heap.size 0 rfl ((madeE key n g).c (.slice a1 1 cap1)) rfl (by kernel_rfl) HB.out (Nat.le_refl 17) HO.out.r.one ?_))
  refine bodyPost_ret (results_cell_row (P := Try.prog) (fn := Try.f33) rfl _ _ _ _ _ _ _ rfl (blk_setCells0 (cs := (madeE key n g).c (.slice a1 1 cap1)) HB.out rfl) Try.underlying45 rfl (by kernel_rfl)) rfl (Gives.mk ⟨_, rfl, ?_, ?_⟩)
  · exact (OParts.keep (HO.out.mono (F' := From (w.heap.size + 1)) (fun k _ hk => by simpa [From] using hk)) (Upd.setsO _ w.heap.size 0 _) (fun k _ hk e => from_neJ hk e (by omega))).mono (fun k _ hk => Nat.le_of_succ_le hk)
  · exact (((Upd.refl No w).alloc _).then0 HU.out).trans (Upd.setsO _ w.heap.size 0 _) (fun k hk e => by have h : k = w.heap.size := e; omega)
end Go.Proofs.Ytaakmkkgnboedaa
