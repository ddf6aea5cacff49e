import Derived.Test.YtaakmkkgnboedaaJ
import Derived.LoopN
namespace Go.Proofs.Ytaakmkkgnboedaa
open Go Go.RowKit Go.Kb
theorem _root_.Go.Kb.RC.newAt (w : World) (sz : Nat) (cs : List Value) (ty : TypeId) (n : Nat) (hn : cs.length = n * sz) (hm : n ≤ maxLen) {g : Nat} (hg : w.heap.size = g) : RC (w.alloc (.cells cs.toArray ty)) sz (.slice (some ⟨g, 0, none⟩) n n) n cs (Only g) := hg ▸ RC.new w sz cs ty n hn hm
def pick (k m : Int) : Int := ((k.tmod m) + m).tmod m
set_option maxRecDepth 100000 in
set_option maxHeartbeats 400000 in
theorem c12 (k m : Int) (hm : 0 < m) (hm2 : m < 1000) (w : World) : Calls Try.prog 12 #[.int .i64 k, .int .i64 m] w fun e w' => e = .returned (.int .i64 (pick k m)) ∧ w = w' := by
  have h1 := Int.tmod_lt_of_pos k hm
  have h2 := Int.lt_tmod_of_pos k hm
  have hz : m ≠ 0 := by omega
  go_enter Try.func12, Try.ntmps12
  go_wp2
  go_ret
  exact ⟨ret_int (by unfold pick; rw [Int.tmod_eq_emod_of_nonneg (a := k.tmod m + m) (by omega)]), rfl⟩
/-- The frame that the examples make. -/
def madeF (key : Bool) (n : Int) : Fr := ⟨⟨96, n * 3000, true, n, true, 0, 0, key, false⟩, key, [⟨⟨false, true, 0, true, true, n, true, 0, true, 0, false, false, 0⟩, [if key then 2 else 1, n, 0]⟩]⟩
theorem from_neJ {n k b : Nat} (h : From n k) (e : Only b k) (hb : b < n) : False := by have h1 : n ≤ k := h; have h2 : k = b := e; omega
theorem made_parts {w4 : World} {key : Bool} {n : Int} {g lo : Nat} {v : Value} {F : Nat → Prop}
    (h4 : OC w4 116 14 v (0 + 1) ([] ++ (⟨⟨false, true, 0, true, true, n, true, 0, true, 0, false, false, 0⟩, [if key then 2 else 1, n, 0]⟩ : Part).c (.slice (some ⟨g, 0, none⟩) 3 3)) F) (hF : ∀ k, F k → lo ≤ k) (hg : lo ≤ g)
    (hb : w4.heap[g]? = some (.cells #[.int .u8 (if key then 2 else 1), .int .u8 n, .int .u8 0] 5 (0, 0))) : OParts 116 w4 v (madeF key n).parts (From lo) := by
  refine ⟨_, h4.mono (fun k _ hk => hF k hk), Els.one rfl ⟨_, rfl, ?_⟩⟩
  exact ⟨rfl, show 3 ≤ maxLen by decide, .inr ⟨g, 0, 3, _, rfl, Nat.le_refl _, hb, Nat.le_refl _, hg, fun j u hj => by rw [Nat.zero_add]; simpa [byt] using hj⟩⟩
def W37 (w : World) (key : Bool) (n : Int) : World :=
  (((w.alloc (.cells #[.bool key, .int .i64 0, .int .u8 0, .bool false, .bool false, .int .u8 0] 86)).alloc (.cells (Fr.z.c (.slice none 0 0)).toArray 41)).alloc
    (.cells #[.bool false, .bool true, .int .u8 0, .bool true, .bool true, .int .u16 n, .bool true, .int .u8 0, .bool true, .int .u8 0, .bool false, .bool false, .int .u8 0] 114)).alloc
    (.cells ((madeF key n).c (.slice none 0 0)).toArray 41)
set_option maxRecDepth 100000 in
set_option maxHeartbeats 1600000 in
theorem c37 (key : Bool) (n : Int) (hn : 0 ≤ n ∧ n < 200) (w : World) :
    Calls Try.prog 37 #[.agg #[.bool key, .int .i64 0, .int .u8 0, .bool false, .bool false, .int .u8 0], .int .i64 n] w (Gives fun r w' => ∃ v, r = .agg ((madeF key n).c v).toArray ∧ OParts 116 w' v (madeF key n).parts (From w.heap.size) ∧ Upd No w w') := by
  obtain ⟨h1, h2⟩ := hn
  have h3 : n % 32768 = n := by omega
  cases key
  · go_enter Try.func37, Try.ntmps37
    go_wp2_with (go_at_call 12; refine (c12 _ _ (by decide) (by decide) _).mono ?_; rintro e w1 ⟨rfl, rfl⟩; simp only [show pick 0 6 = 0 from rfl])
    obtain ⟨W, hW⟩ : ∃ W, W = W37 w false n := ⟨_, rfl⟩
    have b0 : W.heap[w.heap.size]? = some (.cells #[.bool false, .int .i64 0, .int .u8 0, .bool false, .bool false, .int .u8 0] 86 (0, 0)) := by subst hW; exact blk_alloc (blk_alloc (blk_alloc (blk_new _ _) _) _) _
    have b1 : W.heap[w.heap.size + 1]? = some (.cells (Fr.z.c (.slice none 0 0)).toArray 41 (0, 0)) := by subst hW; exact blk_alloc (blk_alloc (heap_alloc2_new _ _ _) _) _
    have b2 : W.heap[w.heap.size + 2]? = some (.cells #[.bool false, .bool true, .int .u8 0, .bool true, .bool true, .int .u16 n, .bool true, .int .u8 0, .bool true, .int .u8 0, .bool false, .bool false, .int .u8 0] 114 (0, 0)) := by
      subst hW
      exact blk_alloc (heap_alloc2_new (w.alloc _) _ _ ▸ by rw [World.size_alloc]) _
    have eS : W.heap.size = w.heap.size + 4 := by subst hW; simp [W37]
    have b3 : W.heap[w.heap.size + 3]? = some (.cells ((madeF false n).c (.slice none 0 0)).toArray 41 (0, 0)) := by
      have h := blk_new (((w.alloc (.cells #[.bool false, .int .i64 0, .int .u8 0, .bool false, .bool false, .int .u8 0] 86)).alloc (.cells (Fr.z.c (.slice none 0 0)).toArray 41)).alloc (.cells #[.bool false, .bool true, .int .u8 0, .bool true, .bool true, .int .u16 n, .bool true, .int .u8 0, .bool true, .int .u8 0, .bool false, .bool false, .int .u8 0] 114)) (.cells ((madeF false n).c (.slice none 0 0)).toArray 41)
      simp only [World.size_alloc] at h
      subst hW
      exact h
    have eU : Upd No w W := by subst hW; exact ((((Upd.refl _ _).alloc _).alloc _).alloc _).alloc _
    show Code.wp _ _ _ _ (W37 w false n)
    rw [← hW]
    obtain ⟨k0, k0f⟩ := blk_walk b0
    obtain ⟨k2, k2f⟩ := blk_walk b2
    obtain ⟨k3, k3f⟩ := blk_walk b3
    simp only [madeF, Fr.c] at k3
    have E := Lib.hid (And.intro b0 (And.intro b1 (And.intro b2 (And.intro b3 eU))))
    have HS := Lib.hid eS
    clear hW eS b0 b1 b2 b3 eU
    refine wp_loop_rounds 2 ?_
    rw [rounds_succ]
    go_wp2_with (at_builtin; refine wpList_append_oc (n := 0) (m := 1) rfl (.tmp 63) (.tmp 72) 39 rfl Try.underlying39 info116 rfl (by decide) rfl rfl (OC.nil _ 116 14 No _) (RC.newAt _ 14 _ 116 1 rfl (by decide) (World.size_alloc _ _)) (by simp [Value.oneCell']) (by decide) (by decide) ?_; intro v4 w4 h4 u4; obtain ⟨a4, c4, rfl, -⟩ := h4.slice; have q3 := u4.blk (blk_alloc (blk_alloc E.out.2.2.2.1 _) _) (fun f => f); have q2 := u4.blk (blk_alloc (blk_alloc E.out.2.2.1 _) _) (fun f => f); have q1 := u4.blk (blk_alloc (blk_alloc E.out.2.1 _) _) (fun f => f); obtain ⟨m2, m2f⟩ := blk_walk q2; obtain ⟨m3, m3f⟩ := blk_walk q3; simp only [madeF, Fr.c] at m3; have Q := Lib.hid (And.intro q1 (And.intro q2 q3)); have U4 : Hid (Upd No w w4) := Lib.hid (((E.out.2.2.2.2.alloc _).alloc _).then0 u4); have q0 := u4.blk (blk_alloc (blk_alloc E.out.1 _) _) (fun f => f); obtain ⟨m0, m0f⟩ := blk_walk q0; have H4 := Lib.hid h4; have QB := Lib.hid (u4.blk (blk_alloc (blk_new W _) _) (fun f => f)); clear q0 q1 q2 q3 u4 h4 k0 k0f k2 k2f k3 k3f)
    rw [rounds_succ]
    go_wp2_with (first
      | (refine wpList_at (.load 41 (.tmp 8)) rfl ?_; refine wpList_load_agg rfl 41 (.tmp 8) rfl (w.heap.size + 3) 0 rfl ((madeF false n).c (.slice a4 (0 + 1) c4)) _ Try.underlying41 rfl (by kernel_rfl) (all_cells (blk_setCell_other (blk_setCell Q.out.2.2 _) (show w.heap.size + 3 ≠ w.heap.size + 2 by omega) _)) ?_)
      | (refine wpList_at (.store 41 (.tmp 4) (.tmp 76)) rfl ?_; refine wpList_store_agg rfl 41 (.tmp 4) (.tmp 76) rfl (w.heap.size + 1) 0 rfl ((madeF false n).c (.slice a4 (0 + 1) c4)) rfl (by kernel_rfl) (blk_setCell_other (blk_setCell_other Q.out.1 (show w.heap.size + 1 ≠ w.heap.size + 3 by omega) _) (show w.heap.size + 1 ≠ w.heap.size + 2 by omega) _) (Nat.le_refl 11) (by simp [madeF, Fr.c, Value.oneCell']) ?_))
    refine bodyPost_ret (results_cell_row (P := Try.prog) (fn := Try.f37) rfl _ _ _ _ _ _ _ rfl (blk_setCells0 (cs := (madeF false n).c (.slice a4 (0 + 1) c4)) (blk_setCell_other (blk_setCell_other Q.out.1 (show w.heap.size + 1 ≠ w.heap.size + 3 by omega) _) (show w.heap.size + 1 ≠ w.heap.size + 2 by omega) _) rfl) Try.underlying41 rfl (by kernel_rfl)) rfl (Gives.mk ⟨_, rfl, ?_, ?_⟩)
    · have hp : OParts 116 w4 (.slice a4 (0 + 1) c4) (madeF false n).parts (From (w.heap.size + 4)) := made_parts H4.out (fun k hk => hk.elim (fun f => f.elim) (fun h => by simp only [World.size_alloc, HS.out] at h; omega)) (by have := HS.out; omega) QB.out
      exact (OParts.keep (OParts.keep (OParts.keep hp (Upd.set1 w4 (w.heap.size + 3) 10 _) (fun k _ hk e => from_neJ hk e (by omega))) (Upd.set1 _ (w.heap.size + 2) 1 _) (fun k _ hk e => from_neJ hk e (by omega))) (Upd.setsO _ (w.heap.size + 1) 0 _) (fun k _ hk e => from_neJ hk e (by omega))).mono (fun k _ hk => Nat.le_trans (by omega) hk)
    · exact ((U4.out.trans (Upd.set1 w4 (w.heap.size + 3) 10 _) (fun k hk e => by have h : k = w.heap.size + 3 := e; omega)).trans (Upd.set1 _ (w.heap.size + 2) 1 _) (fun k hk e => by have h : k = w.heap.size + 2 := e; omega)).trans (Upd.setsO _ (w.heap.size + 1) 0 _) (fun k hk e => by have h : k = w.heap.size + 1 := e; omega)
  · go_enter Try.func37, Try.ntmps37
    go_wp2_with (go_at_call 12; refine (c12 _ _ (by decide) (by decide) _).mono ?_; rintro e w1 ⟨rfl, rfl⟩; simp only [show pick 0 6 = 0 from rfl])
    obtain ⟨W, hW⟩ : ∃ W, W = W37 w true n := ⟨_, rfl⟩
    have b0 : W.heap[w.heap.size]? = some (.cells #[.bool true, .int .i64 0, .int .u8 0, .bool false, .bool false, .int .u8 0] 86 (0, 0)) := by subst hW; exact blk_alloc (blk_alloc (blk_alloc (blk_new _ _) _) _) _
    have b1 : W.heap[w.heap.size + 1]? = some (.cells (Fr.z.c (.slice none 0 0)).toArray 41 (0, 0)) := by subst hW; exact blk_alloc (blk_alloc (heap_alloc2_new _ _ _) _) _
    have b2 : W.heap[w.heap.size + 2]? = some (.cells #[.bool false, .bool true, .int .u8 0, .bool true, .bool true, .int .u16 n, .bool true, .int .u8 0, .bool true, .int .u8 0, .bool false, .bool false, .int .u8 0] 114 (0, 0)) := by
      subst hW
      exact blk_alloc (heap_alloc2_new (w.alloc _) _ _ ▸ by rw [World.size_alloc]) _
    have eS : W.heap.size = w.heap.size + 4 := by subst hW; simp [W37]
    have b3 : W.heap[w.heap.size + 3]? = some (.cells ((madeF true n).c (.slice none 0 0)).toArray 41 (0, 0)) := by
      have h := blk_new (((w.alloc (.cells #[.bool true, .int .i64 0, .int .u8 0, .bool false, .bool false, .int .u8 0] 86)).alloc (.cells (Fr.z.c (.slice none 0 0)).toArray 41)).alloc (.cells #[.bool false, .bool true, .int .u8 0, .bool true, .bool true, .int .u16 n, .bool true, .int .u8 0, .bool true, .int .u8 0, .bool false, .bool false, .int .u8 0] 114)) (.cells ((madeF true n).c (.slice none 0 0)).toArray 41)
      simp only [World.size_alloc] at h
      subst hW
      exact h
    have eU : Upd No w W := by subst hW; exact ((((Upd.refl _ _).alloc _).alloc _).alloc _).alloc _
    show Code.wp _ _ _ _ (W37 w true n)
    rw [← hW]
    obtain ⟨k0, k0f⟩ := blk_walk b0
    obtain ⟨k2, k2f⟩ := blk_walk b2
    obtain ⟨k3, k3f⟩ := blk_walk b3
    simp only [madeF, Fr.c] at k3
    have E := Lib.hid (And.intro b0 (And.intro b1 (And.intro b2 (And.intro b3 eU))))
    have HS := Lib.hid eS
    clear hW eS b0 b1 b2 b3 eU
    refine wp_loop_rounds 2 ?_
    rw [rounds_succ]
    go_wp2_with (at_builtin; refine wpList_append_oc (n := 0) (m := 1) rfl (.tmp 63) (.tmp 72) 39 rfl Try.underlying39 info116 rfl (by decide) rfl rfl (OC.nil _ 116 14 No _) (RC.newAt _ 14 _ 116 1 rfl (by decide) (World.size_alloc _ _)) (by simp [Value.oneCell']) (by decide) (by decide) ?_; intro v4 w4 h4 u4; obtain ⟨a4, c4, rfl, -⟩ := h4.slice; have q3 := u4.blk (blk_alloc (blk_alloc E.out.2.2.2.1 _) _) (fun f => f); have q2 := u4.blk (blk_alloc (blk_alloc E.out.2.2.1 _) _) (fun f => f); have q1 := u4.blk (blk_alloc (blk_alloc E.out.2.1 _) _) (fun f => f); obtain ⟨m2, m2f⟩ := blk_walk q2; obtain ⟨m3, m3f⟩ := blk_walk q3; simp only [madeF, Fr.c] at m3; have Q := Lib.hid (And.intro q1 (And.intro q2 q3)); have U4 : Hid (Upd No w w4) := Lib.hid (((E.out.2.2.2.2.alloc _).alloc _).then0 u4); have q0 := u4.blk (blk_alloc (blk_alloc E.out.1 _) _) (fun f => f); obtain ⟨m0, m0f⟩ := blk_walk q0; have H4 := Lib.hid h4; have QB := Lib.hid (u4.blk (blk_alloc (blk_new W _) _) (fun f => f)); clear q0 q1 q2 q3 u4 h4 k0 k0f k2 k2f k3 k3f)
    rw [rounds_succ]
    go_wp2_with (first
      | (refine wpList_at (.load 41 (.tmp 8)) rfl ?_; refine wpList_load_agg rfl 41 (.tmp 8) rfl (w.heap.size + 3) 0 rfl ((madeF true n).c (.slice a4 (0 + 1) c4)) _ Try.underlying41 rfl (by kernel_rfl) (all_cells (blk_setCell_other (blk_setCell Q.out.2.2 _) (show w.heap.size + 3 ≠ w.heap.size + 2 by omega) _)) ?_)
      | (refine wpList_at (.store 41 (.tmp 4) (.tmp 76)) rfl ?_; refine wpList_store_agg rfl 41 (.tmp 4) (.tmp 76) rfl (w.heap.size + 1) 0 rfl ((madeF true n).c (.slice a4 (0 + 1) c4)) rfl (by kernel_rfl) (blk_setCell_other (blk_setCell_other Q.out.1 (show w.heap.size + 1 ≠ w.heap.size + 3 by omega) _) (show w.heap.size + 1 ≠ w.heap.size + 2 by omega) _) (Nat.le_refl 11) (by simp [madeF, Fr.c, Value.oneCell']) ?_))
    refine bodyPost_ret (results_cell_row (P := Try.prog) (fn := Try.f37) rfl _ _ _ _ _ _ _ rfl (blk_setCells0 (cs := (madeF true n).c (.slice a4 (0 + 1) c4)) (blk_setCell_other (blk_setCell_other Q.out.1 (show w.heap.size + 1 ≠ w.heap.size + 3 by omega) _) (show w.heap.size + 1 ≠ w.heap.size + 2 by omega) _) rfl) Try.underlying41 rfl (by kernel_rfl)) rfl (Gives.mk ⟨_, rfl, ?_, ?_⟩)
    · have hp : OParts 116 w4 (.slice a4 (0 + 1) c4) (madeF true n).parts (From (w.heap.size + 4)) := made_parts H4.out (fun k hk => hk.elim (fun f => f.elim) (fun h => by simp only [World.size_alloc, HS.out] at h; omega)) (by have := HS.out; omega) QB.out
      exact (OParts.keep (OParts.keep (OParts.keep hp (Upd.set1 w4 (w.heap.size + 3) 10 _) (fun k _ hk e => from_neJ hk e (by omega))) (Upd.set1 _ (w.heap.size + 2) 1 _) (fun k _ hk e => from_neJ hk e (by omega))) (Upd.setsO _ (w.heap.size + 1) 0 _) (fun k _ hk e => from_neJ hk e (by omega))).mono (fun k _ hk => Nat.le_trans (by omega) hk)
    · exact ((U4.out.trans (Upd.set1 w4 (w.heap.size + 3) 10 _) (fun k hk e => by have h : k = w.heap.size + 3 := e; omega)).trans (Upd.set1 _ (w.heap.size + 2) 1 _) (fun k hk e => by have h : k = w.heap.size + 2 := e; omega)).trans (Upd.setsO _ (w.heap.size + 1) 0 _) (fun k hk e => by have h : k = w.heap.size + 1 := e; omega)
end Go.Proofs.Ytaakmkkgnboedaa
