/- Contract of layer 19: Shift. -/
import Derived.Test.YtaakmkkgnboedaaJ
namespace Go.Proofs.Ytaakmkkgnboedaa
open Go Go.RowKit Go.Kb
theorem two_set (W : World) (b i j : Nat) (u v : Value) : Upd (Only b) W ((W.setCell ⟨b, i, none⟩ u).setCell ⟨b, j, none⟩ v) := (Upd.set1 W b i u).same (Upd.set1 _ b j v)
theorem from_ne {n k b : Nat} (h : From n k) (e : Only b k) (hb : b < n) : False := by have h1 : n ≤ k := h; have h2 : k = b := e; omega
theorem shift_q {W2 : World} {b g off cap o2 cap2 : Nat} {s : Q} {F : Nat → Prop} {x : En} {xs : List En} {cur : Array Value} (hF : F b)
    (hb : W2.heap[b]? = some (.cells #[.int .i64 s.most, .bool s.careful, .bool s.begun, .slice (some ⟨g, off, none⟩) s.es.length cap] 108 (0, 0)))
    (hO : OEns 45 W2 (.slice (some ⟨g, off, none⟩) s.es.length cap) s.es (fun k => F k ∧ k ≠ b)) (hx : s.es = x :: xs) (ho : xs ≠ [] → o2 = off + 17) (hg : W2.heap[g]? = some (.cells cur 45 (0, 0))) (hfit : o2 + cap2 * 17 ≤ cur.size) (hcap : xs.length ≤ cap2) (hFg : F g ∧ g ≠ b) :
    QRep ((W2.setCell ⟨b, 3, none⟩ (.slice (some ⟨g, o2, none⟩) xs.length cap2)).setCell ⟨b, 2, none⟩ (.bool false)) b { s with es := xs, begun := false } F := by
  have hu := two_set W2 b 3 2 (.slice (some ⟨g, o2, none⟩) xs.length cap2) (.bool false)
  have hb1 := blk_setCell (i := 3) hb (.slice (some ⟨g, o2, none⟩) xs.length cap2)
  obtain ⟨cs, hOC, hE⟩ := hO
  rw [hx] at hOC hE
  obtain ⟨c, r, rfl, hcl, hc, hr⟩ := hE
  obtain ⟨g', off', cap', cur', he, -, hg', -, -, hcell⟩ := hOC.at (by simp)
  injection he with he1 _ he3
  injection he1 with he1
  injection he1 with he1 he4
  subst he1; subst he3; subst he4
  rw [hg] at hg'
  injection hg' with hg'
  injection hg' with hg' _ _
  subst hg'
  refine ⟨hF, .slice (some ⟨g, o2, none⟩) xs.length cap2, by rw [blk_setCell hb1]; rfl, r, OC.keep ⟨hr.len, ?_, .inr ⟨g, o2, cap2, cur, rfl, hcap, hg, hfit, hFg, fun j u hj => ?_⟩⟩ hu (fun k _ hk e => hk.2 e), hr.imp fun _ _ h => (h.mono (fun k _ hk => ⟨hk.1, hk.2⟩)).keep hu (fun k _ hk e => hk.1.2 e)⟩
  · exact Nat.le_of_succ_le hOC.2.1
  · have hne : xs ≠ [] := by
      rintro rfl
      cases hr
      simp at hj
    rw [ho hne, Nat.add_assoc]
    refine hcell _ _ ?_
    rw [List.getElem?_append_right (by omega), show 17 + j - c.length = j by omega]
    exact hj
set_option maxRecDepth 100000 in
set_option maxHeartbeats 400000 in
theorem c16n (w : World) : Calls Try.prog 16 #[.pointer none] w (Gives fun r w' => r = .tuple #[.agg (En.z.c (.slice none 0 0)).toArray, .bool false] ∧ Upd No w w') := by
  go_enter Try.func16, Try.ntmps16
  go_wp2_with (first
    | (go_at_call 23; refine (c23n _).mono ?_; rintro e w1 ⟨r, rfl, rfl, u⟩; have U1 := Lib.hid u; have HB := Lib.hid (u.blk (blk_new w (.cells zE 45)) (fun f => f)); clear u)
    | (refine wpList_at (.store 45 (.tmp 4) (.tmp 9)) rfl ?_; refine wpList_store_agg rfl 45 (.tmp 4) (.tmp 9) rfl w1.heap.size 0 rfl (En.z.c (.slice none 0 0)) rfl (by kernel_rfl) (blk_new _ _) (Nat.le_refl 17) (RParts.one (x := En.z) (RParts.nil w none No)) ?_; obtain ⟨g0, gU⟩ := rng_copy w1 zE 45 (En.z.c (.slice none 0 0)) rfl; revert g0 gU; generalize World.setCells _ w1.heap.size 0 (En.z.c (.slice none 0 0)) = W2; intro g0 gU; have GU := Lib.hid gU; have G0 := Lib.hid g0; clear g0 gU)
    | (refine wpList_at (.load 45 (.tmp 4)) rfl ?_; refine wpList_load_agg rfl 45 (.tmp 4) rfl w1.heap.size 0 rfl (En.z.c (.slice none 0 0)) _ Try.underlying45 rfl (by kernel_rfl) (all_cells G0.out) ?_)
    | (refine wpList_at (.store 45 (.tmp 2) (.tmp 23)) rfl ?_; refine wpList_store_agg rfl 45 (.tmp 2) (.tmp 23) rfl w.heap.size 0 rfl (En.z.c (.slice none 0 0)) rfl (by kernel_rfl) (GU.out.blk HB.out (fun f => f)) (Nat.le_refl 17) (RParts.one (x := En.z) (RParts.nil w none No)) ?_))
  refine bodyPost_ret (results_row_tmp (P := Try.prog) (fn := Try.f16) rfl _ _ _ _ _ _ _ _ rfl rfl (blk_setCells0 (cs := En.z.c (.slice none 0 0)) (GU.out.blk HB.out (fun f => f)) rfl) Try.underlying45 rfl (by kernel_rfl)) rfl (Gives.mk ⟨rfl, ?_⟩)
  exact ((((Upd.refl No w).alloc (.cells zE 45)).then0 U1.out).then0 GU.out).trans (Upd.setsO _ _ _ _) (fun k hk e => by have : k = w.heap.size := e; omega)
set_option maxRecDepth 100000 in
set_option maxHeartbeats 400000 in
theorem c16 (w : World) (b : Nat) (s : Q) (F : Nat → Prop) (h : QRep w b s F) (hf : Fits s.es.length) (x : En) (xs : List En) (hx : s.es = x :: xs) (hsm : Small x) :
    Calls Try.prog 16 #[.pointer (some ⟨b, 0, none⟩)] w (Gives fun r w' => ∃ v, r = .tuple #[.agg (x.c v).toArray, .bool true] ∧ OParts 116 w' v x.fr.parts (From w.heap.size) ∧ QRep w' b { s with es := xs, begun := false } F ∧ Upd F w w') := by
  have HQ := Lib.hid h
  obtain ⟨hF, v, hb, hO⟩ := HQ.out
  have hmax : s.es.length ≤ 60000 := hf
  have hl : 0 < s.es.length := by rw [hx]; simp
  have hx0 : s.es[0]? = some x := by rw [hx]; rfl
  obtain ⟨g, off, cap, pv, cur, rfl, hcap, hg, hs, hFg, hp, hc⟩ := hO.at hx0
  have HB := Lib.hid hb
  have HO := Lib.hid hO
  have HX := Lib.hid hx
  have HX0 := Lib.hid hx0
  have HG := Lib.hid hg
  clear hO hb hx hc hg hp hx0 h hf
  have hlen : s.es.length = xs.length + 1 := by rw [HX.out]; rfl
  have hbl := blk_lt HB.out
  by_cases hc1 : cap = 1
  all_goals
    go_enter Try.func16, Try.ntmps16
    go_wp2_with (first
      | (go_at_call 23; refine (c23 _ b s F (HQ.out.keep ((Upd.refl No _).alloc _) (fun _ _ _ f => f)) x HX0.out hsm).mono ?_; rintro e w1 ⟨r, rfl, v1, rfl, ho, u⟩; have U1 := Lib.hid u; have HB1 := Lib.hid (u.blk (blk_new w (.cells zE 45)) (fun f => f)); have HO1 := Lib.hid (ho.mono (F' := From (w.heap.size + 1)) (fun k _ hk => by simpa [From] using hk)); have hsz : w.heap.size + 1 ≤ w1.heap.size := (World.size_alloc w (.cells zE 45)) ▸ u.size; clear u ho)
      | (refine wpList_at (.store 45 (.tmp 4) (.tmp 9)) rfl ?_; refine wpList_store_agg rfl 45 (.tmp 4) (.tmp 9) rfl w1.heap.size 0 rfl (x.c v1) rfl (by kernel_rfl) (blk_new _ _) (Nat.le_refl 17) HO1.out.r.one ?_; obtain ⟨g0, gU⟩ := rng_copy w1 zE 45 (x.c v1) rfl; revert g0 gU; generalize World.setCells _ w1.heap.size 0 (x.c v1) = W2; intro g0 gU; have GU := Lib.hid gU; have G0 := Lib.hid g0; have UB : Hid (Upd No w W2) := Lib.hid ((((Upd.refl No w).alloc (.cells zE 45)).then0 U1.out).then0 gU); have HB2 := Lib.hid (UB.out.blk HB.out (fun f => f)); obtain ⟨kb, kbf⟩ := blk_walk HB2.out; clear g0 gU)
      | (refine wpList_at (.load 45 (.tmp 4)) rfl ?_; refine wpList_load_agg rfl 45 (.tmp 4) rfl w1.heap.size 0 rfl (x.c v1) _ Try.underlying45 rfl (by kernel_rfl) (all_cells ((two_set W2 b 3 2 _ _).blk G0.out (not_only (by omega)))) ?_)
      | (refine wpList_at (.store 45 (.tmp 2) (.tmp 23)) rfl ?_; refine wpList_store_agg rfl 45 (.tmp 2) (.tmp 23) rfl w.heap.size 0 rfl (x.c v1) rfl (by kernel_rfl) ((two_set W2 b 3 2 _ _).blk (GU.out.blk HB1.out (fun f => f)) (not_only (by omega))) (Nat.le_refl 17) HO1.out.r.one ?_))
    refine bodyPost_ret (results_row_tmp (P := Try.prog) (fn := Try.f16) rfl _ _ _ _ _ _ _ _ rfl rfl (blk_setCells0 (cs := x.c v1) ((two_set W2 b 3 2 _ _).blk (GU.out.blk HB1.out (fun f => f)) (not_only (by omega))) rfl) Try.underlying45 rfl (by kernel_rfl)) rfl (Gives.mk ⟨v1, rfl, ?_, ?_, ?_⟩)
    · exact (OParts.keep (OParts.keep (OParts.keep HO1.out GU.out (fun _ _ _ f => f)) (two_set W2 b 3 2 _ _) (fun k _ hk e => from_ne hk e (by omega))) (Upd.setsO _ w.heap.size 0 (x.c v1)) (fun k _ hk e => from_ne hk e (by omega))).mono (fun k _ hk => Nat.le_of_succ_le hk)
    · exact ((shift_q (F := fun k => F k ∧ k < w.heap.size) ⟨hF, hbl⟩ HB2.out ((HO.out.bound.mono (fun k _ hk => ⟨⟨hk.1.1, hk.2⟩, hk.1.2⟩)).keep UB.out (fun _ _ _ f => f)) HX.out (fun hne => by first | rfl | (exfalso; have := List.length_pos_iff.2 hne; omega)) (UB.out.blk HG.out (fun f => f)) (by omega) (by omega) ⟨⟨hFg.1, blk_lt HG.out⟩, hFg.2⟩).keep (Upd.setsO _ w.heap.size 0 (x.c v1)) (fun k _ hk e => absurd (show k = w.heap.size from e) (Nat.ne_of_lt hk.2))).mono (fun k _ hk => hk.1)
    · exact ((UB.out.mono (fun _ _ f => f.elim)).trans (two_set W2 b 3 2 _ _) (fun k _ e => (show k = b from e) ▸ hF)).trans (Upd.setsO _ w.heap.size 0 (x.c v1)) (fun k hk e => absurd (show k = w.heap.size from e) (Nat.ne_of_lt hk))
set_option maxRecDepth 100000 in
set_option maxHeartbeats 400000 in
theorem c16e (w : World) (b : Nat) (s : Q) (F : Nat → Prop) (h : QRep w b s F) (hx : s.es = []) : Calls Try.prog 16 #[.pointer (some ⟨b, 0, none⟩)] w (Gives fun r w' => r = .tuple #[.agg (En.z.c (.slice none 0 0)).toArray, .bool false] ∧ Upd No w w') := by
  go_enter Try.func16, Try.ntmps16
  go_wp2_with (first
    | (go_at_call 23; refine (c23e _ b s F (h.keep ((Upd.refl No _).alloc _) (fun _ _ _ f => f)) hx).mono ?_; rintro e w1 ⟨r, rfl, rfl, u⟩; have U1 := Lib.hid u; have HB := Lib.hid (u.blk (blk_new w (.cells zE 45)) (fun f => f)); clear u)
    | (refine wpList_at (.store 45 (.tmp 4) (.tmp 9)) rfl ?_; refine wpList_store_agg rfl 45 (.tmp 4) (.tmp 9) rfl w1.heap.size 0 rfl (En.z.c (.slice none 0 0)) rfl (by kernel_rfl) (blk_new _ _) (Nat.le_refl 17) (RParts.one (x := En.z) (RParts.nil w none No)) ?_; obtain ⟨g0, gU⟩ := rng_copy w1 zE 45 (En.z.c (.slice none 0 0)) rfl; revert g0 gU; generalize World.setCells _ w1.heap.size 0 (En.z.c (.slice none 0 0)) = W2; intro g0 gU; have GU := Lib.hid gU; have G0 := Lib.hid g0; clear g0 gU)
    | (refine wpList_at (.load 45 (.tmp 4)) rfl ?_; refine wpList_load_agg rfl 45 (.tmp 4) rfl w1.heap.size 0 rfl (En.z.c (.slice none 0 0)) _ Try.underlying45 rfl (by kernel_rfl) (all_cells G0.out) ?_)
    | (refine wpList_at (.store 45 (.tmp 2) (.tmp 23)) rfl ?_; refine wpList_store_agg rfl 45 (.tmp 2) (.tmp 23) rfl w.heap.size 0 rfl (En.z.c (.slice none 0 0)) rfl (by kernel_rfl) (GU.out.blk HB.out (fun f => f)) (Nat.le_refl 17) (RParts.one (x := En.z) (RParts.nil w none No)) ?_))
  refine bodyPost_ret (results_row_tmp (P := Try.prog) (fn := Try.f16) rfl _ _ _ _ _ _ _ _ rfl rfl (blk_setCells0 (cs := En.z.c (.slice none 0 0)) (GU.out.blk HB.out (fun f => f)) rfl) Try.underlying45 rfl (by kernel_rfl)) rfl (Gives.mk ⟨rfl, ?_⟩)
  exact ((((Upd.refl No w).alloc (.cells zE 45)).then0 U1.out).then0 GU.out).trans (Upd.setsO _ _ _ _) (fun k hk e => by have : k = w.heap.size := e; omega)
end Go.Proofs.Ytaakmkkgnboedaa
