/- Contracts of layer 19: what a queue counts. (The walks' arms are printed by wip/tools/range19.py.) -/
import Derived.Test.YtaakmkkgnboedaaD
namespace Go.Proofs.Ytaakmkkgnboedaa
open Go Go.RowKit Go.Kb
def framesL (l : List En) : Nat := (l.filter (fun x => !x.lost)).length
theorem framesL_snoc (l : List En) (x : En) : framesL (l ++ [x]) = framesL l + (if x.lost then 0 else 1) := by
  unfold framesL
  rw [List.filter_append, List.length_append]
  cases h : x.lost <;> simp [h]
@[reducible] def zE : Array Value := #[.int .u64 0, .int .i64 0, .bool false, .bool false, .int .u8 0, .bool false, .int .u8 0, .int .u32 0, .bool false, .int .u16 0, .bool false, .int .u8 0, .int .u8 0, .bool false, .bool false, .bool false, .slice none 0 0]
theorem rng_copy (wr : World) (z : Array Value) (ty : TypeId) (cs : List Value) (hz : cs.length = z.size) :
    ((wr.alloc (.cells z ty)).setCells wr.heap.size 0 cs).heap[wr.heap.size]? = some (.cells cs.toArray ty (0, 0)) ∧ Upd No wr ((wr.alloc (.cells z ty)).setCells wr.heap.size 0 cs) :=
  ⟨blk_setCells0 (blk_new _ _) hz, ((Upd.refl _ _).alloc _).trans (Upd.setsO _ _ _ _) (fun k hk e => by have : k = wr.heap.size := e; omega)⟩
theorem framesL_le (l : List En) : framesL l ≤ l.length := List.length_filter_le _ _
set_option maxRecDepth 100000 in
set_option maxHeartbeats 400000 in
theorem c25 (w : World) (b : Nat) (s : Q) (F : Nat → Prop) (h : QRep w b s F) (hf : Fits s.es.length) :
    Calls Try.prog 25 #[.pointer (some ⟨b, 0, none⟩)] w fun e w' => e = .returned (.int .i64 (framesL s.es)) ∧ Upd No w w' := by
  obtain ⟨hF, v, hb, hO⟩ := h
  have hmax : s.es.length ≤ 60000 := hf
  obtain ⟨a0, cap0, rfl⟩ := hO.slice
  obtain ⟨kb, kbf⟩ := blk_walk hb
  have HO := Lib.hid hO
  clear hO hb hf
  go_enter Try.func25, Try.ntmps25
  go_wp2
  go_loopw [2, 12] (fun n i wr => ∃ k : Nat, k ≤ s.es.length ∧ i = .int .i64 k ∧ n = .int .i64 (framesL (s.es.take k)) ∧ Hid (Upd No w wr)) (fun _ i _ => s.es.length - (intOf i).toNat)
  case atStart => exact ⟨0, Nat.zero_le _, rfl, rfl, Lib.hid (Upd.refl _ _)⟩
  case round =>
    obtain ⟨k, hk, rfl, rfl, hU⟩ := hrel
    have hfl := framesL_le (s.es.take k)
    rw [List.length_take, Nat.min_eq_left hk] at hfl
    by_cases hlt : k < s.es.length
    · obtain ⟨x, hx⟩ : ∃ x, s.es[k]? = some x := ⟨_, List.getElem?_eq_getElem hlt⟩
      obtain ⟨g, off, cap, pv, cur, he, hcap, hg, hs, hFg, hp, hc⟩ := (HO.out.keep hU.out (fun _ _ _ f => f)).at hx
      injection he with he _ he3
      subst he; subst he3
      have hlt' : (k : Int) < s.es.length := by omega
      have HC := Lib.hid hc
      have H1 := Lib.hid hp.one
      have HT : Hid (s.es.take (k + 1) = s.es.take k ++ [x]) := Lib.hid (by rw [List.take_add_one, hx]; rfl)
      clear hc hp hg hs hx
      cases hl : x.lost
      all_goals
        go_wp2_with (first
          | (refine wpList_at (.load 45 (.tmp 14)) rfl ?_; refine wpList_load_agg rfl 45 (.tmp 14) rfl g (off + k * 17) rfl (x.c pv) _ Try.underlying45 rfl (by kernel_rfl) HC.out ?_)
          | (refine wpList_at (.store 45 (.tmp 4) (.tmp 15)) rfl ?_; refine wpList_store_agg rfl 45 (.tmp 4) (.tmp 15) rfl wr.heap.size 0 rfl (x.c pv) rfl (by kernel_rfl) (blk_new _ _) (Nat.le_refl 17) H1.out ?_; obtain ⟨g0, gU⟩ := rng_copy wr zE 45 (x.c pv) rfl; revert g0 gU; generalize World.setCells _ wr.heap.size 0 (x.c pv) = W2; intro g0 gU; have GU := Lib.hid gU; clear gU; obtain ⟨k5, k5f⟩ := blk_walk g0; clear g0; simp only [En.c, hl] at k5))
      all_goals exact ⟨⟨k + 1, by omega, by go_num, by rw [HT.out, framesL_snoc, hl]; simp, Lib.hid (hU.out.then0 GU.out)⟩, by simp [intOf]; omega⟩
    · obtain rfl : k = s.es.length := by omega
      clear HO
      go_wp2
      go_ret
      exact ⟨by simp, hU.out⟩

def latestL (l : List En) : Int := l.foldl (fun b x => if x.lost then b else if b < x.grant then x.grant else b) 0
theorem latestL_snoc (l : List En) (x : En) : latestL (l ++ [x]) = if x.lost then latestL l else if latestL l < x.grant then x.grant else latestL l := by
  unfold latestL
  rw [List.foldl_append]
  rfl
set_option maxRecDepth 100000 in
set_option maxHeartbeats 400000 in
theorem c81 (w : World) (b : Nat) (s : Q) (F : Nat → Prop) (h : QRep w b s F) (hf : Fits s.es.length) :
    Calls Try.prog 81 #[.pointer (some ⟨b, 0, none⟩)] w fun e w' => e = .returned (.int .u64 (latestL s.es)) ∧ Upd No w w' := by
  obtain ⟨hF, v, hb, hO⟩ := h
  have hmax : s.es.length ≤ 60000 := hf
  obtain ⟨a0, cap0, rfl⟩ := hO.slice
  obtain ⟨kb, kbf⟩ := blk_walk hb
  have HO := Lib.hid hO
  clear hO hb hf
  go_enter Try.func81, Try.ntmps81
  go_wp2
  go_loopw [2, 10] (fun n i wr => ∃ k : Nat, k ≤ s.es.length ∧ i = .int .i64 k ∧ n = .int .u64 (latestL (s.es.take k)) ∧ Hid (Upd No w wr)) (fun _ i _ => s.es.length - (intOf i).toNat)
  case atStart => exact ⟨0, Nat.zero_le _, rfl, rfl, Lib.hid (Upd.refl _ _)⟩
  case round =>
    obtain ⟨k, hk, rfl, rfl, hU⟩ := hrel
    by_cases hlt : k < s.es.length
    · skip
      obtain ⟨x, hx⟩ : ∃ x, s.es[k]? = some x := ⟨_, List.getElem?_eq_getElem hlt⟩
      obtain ⟨g, off, cap, pv, cur, he, hcap, hg, hs, hFg, hp, hc⟩ := (HO.out.keep hU.out (fun _ _ _ f => f)).at hx
      injection he with he _ he3
      subst he; subst he3
      have hlt' : (k : Int) < s.es.length := by omega
      have HC := Lib.hid hc
      have H1 := Lib.hid hp.one
      have HT : Hid (s.es.take (k + 1) = s.es.take k ++ [x]) := Lib.hid (by rw [List.take_add_one, hx]; rfl)
      clear hc hp hg hs hx
      cases hl : x.lost
      · by_cases hm : latestL (s.es.take k) < x.grant
        all_goals
          go_wp2_with (first
            | (refine wpList_at (.load 45 (.tmp 12)) rfl ?_; refine wpList_load_agg rfl 45 (.tmp 12) rfl g (off + k * 17) rfl (x.c pv) _ Try.underlying45 rfl (by kernel_rfl) HC.out ?_)
            | (refine wpList_at (.store 45 (.tmp 4) (.tmp 13)) rfl ?_; refine wpList_store_agg rfl 45 (.tmp 4) (.tmp 13) rfl wr.heap.size 0 rfl (x.c pv) rfl (by kernel_rfl) (blk_new _ _) (Nat.le_refl 17) H1.out ?_; obtain ⟨g0, gU⟩ := rng_copy wr zE 45 (x.c pv) rfl; revert g0 gU; generalize World.setCells _ wr.heap.size 0 (x.c pv) = W2; intro g0 gU; have GU := Lib.hid gU; clear gU; obtain ⟨k5, k5f⟩ := blk_walk g0; clear g0; simp only [En.c, hl] at k5))
        all_goals exact ⟨⟨k + 1, by omega, by go_num, by rw [HT.out, latestL_snoc, hl]; simp [hm], Lib.hid (hU.out.then0 GU.out)⟩, by simp [intOf]; omega⟩
      · go_wp2_with (first
          | (refine wpList_at (.load 45 (.tmp 12)) rfl ?_; refine wpList_load_agg rfl 45 (.tmp 12) rfl g (off + k * 17) rfl (x.c pv) _ Try.underlying45 rfl (by kernel_rfl) HC.out ?_)
          | (refine wpList_at (.store 45 (.tmp 4) (.tmp 13)) rfl ?_; refine wpList_store_agg rfl 45 (.tmp 4) (.tmp 13) rfl wr.heap.size 0 rfl (x.c pv) rfl (by kernel_rfl) (blk_new _ _) (Nat.le_refl 17) H1.out ?_; obtain ⟨g0, gU⟩ := rng_copy wr zE 45 (x.c pv) rfl; revert g0 gU; generalize World.setCells _ wr.heap.size 0 (x.c pv) = W2; intro g0 gU; have GU := Lib.hid gU; clear gU; obtain ⟨k5, k5f⟩ := blk_walk g0; clear g0; simp only [En.c, hl] at k5))
        exact ⟨⟨k + 1, by omega, by go_num, by rw [HT.out, latestL_snoc, hl]; simp, Lib.hid (hU.out.then0 GU.out)⟩, by simp [intOf]; omega⟩
    · obtain rfl : k = s.es.length := by omega
      clear HO
      go_wp2
      go_ret
      exact ⟨by simp, hU.out⟩

def scan (p : Nat → Bool) (n : Nat) : Nat := ((List.range n).find? p).getD n
theorem scan_hit {p : Nat → Bool} {n k : Nat} (hk : k < n) (h : ∀ i, i < k → p i = false) (hp : p k = true) : scan p n = k := by
  unfold scan
  rw [List.find?_range_eq_some.2 ⟨hp, by simpa using hk, fun i hi => by simp [h i hi]⟩]
  rfl
theorem scan_none {p : Nat → Bool} {n : Nat} (h : ∀ i, i < n → p i = false) : scan p n = n := by
  unfold scan
  rw [List.find?_eq_none.2 (fun i hi => by simp [h i (by simpa using hi)])]
  rfl
theorem snoc_no {p : Nat → Bool} {k : Nat} (h : ∀ i, i < k → p i = false) (hk : p k = false) : ∀ i, i < k + 1 → p i = false := by
  intro i hi
  rcases Nat.lt_succ_iff_lt_or_eq.1 hi with h1 | rfl
  · exact h i h1
  · exact hk
theorem scan_le (p : Nat → Bool) (n : Nat) : scan p n ≤ n := by
  unfold scan
  cases h : (List.range n).find? p with
  | none => exact Nat.le_refl _
  | some i => exact Nat.le_of_lt (by simpa using List.mem_of_find?_eq_some h)
def keptB (s : Q) (i : Nat) : Bool := match s.es[i]? with
  | some x => s.careful && (freshB s i x && (x.fr.key && x.grant == latestL s.es))
  | none => false
theorem keptB_at {s : Q} {i : Nat} {x : En} (h : s.es[i]? = some x) : keptB s i = (s.careful && (freshB s i x && (x.fr.key && x.grant == latestL s.es))) := by unfold keptB; rw [h]
def keptL (s : Q) : Nat := scan (keptB s) s.es.length
set_option maxRecDepth 100000 in
set_option maxHeartbeats 800000 in
theorem c79 (w : World) (b : Nat) (s : Q) (F : Nat → Prop) (h : QRep w b s F) (hf : Fits s.es.length) :
    Calls Try.prog 79 #[.pointer (some ⟨b, 0, none⟩)] w fun e w' => e = .returned (.int .i64 (keptL s)) ∧ Upd No w w' := by
  have HQ := Lib.hid h
  obtain ⟨hF, v, hb, hO⟩ := HQ.out
  have hmax : s.es.length ≤ 60000 := hf
  obtain ⟨a0, cap0, rfl⟩ := hO.slice
  obtain ⟨kb, kbf⟩ := blk_walk hb
  have HB := Lib.hid hb
  have HO := Lib.hid hO
  have HF := Lib.hid hf
  clear hO hb hf h
  go_enter Try.func79, Try.ntmps79
  go_wp2_with (go_at_call 81; refine (c81 _ _ _ _ HQ.out HF.out).mono ?_; rintro e w1 ⟨rfl, hu⟩; have HU1 := Lib.hid hu; clear hu; obtain ⟨kb1, kb1f⟩ := blk_walk (HU1.out.blk HB.out (fun f => f)))
  clear kb kbf kb1 kb1f
  go_loopw [2, 13] (fun n i wr => ∃ k : Nat, k ≤ s.es.length ∧ i = .int .i64 k ∧ n = .int .i64 0 ∧ Hid (Upd No w wr ∧ ∀ j, j < k → keptB s j = false)) (fun _ i _ => s.es.length - (intOf i).toNat)
  case atStart => exact ⟨0, Nat.zero_le _, rfl, rfl, Lib.hid ⟨HU1.out, fun j hj => absurd hj (Nat.not_lt_zero _)⟩⟩
  case round =>
    obtain ⟨k, hk, rfl, rfl, hI⟩ := hrel
    have hbr := hI.out.1.blk HB.out (fun f => f)
    obtain ⟨kb, kbf⟩ := blk_walk hbr
    have HBR := Lib.hid hbr
    clear hbr
    by_cases hlt : k < s.es.length
    · skip
      obtain ⟨x, hx⟩ : ∃ x, s.es[k]? = some x := ⟨_, List.getElem?_eq_getElem hlt⟩
      obtain ⟨g, off, cap, pv, cur, he, hcap, hg, hs, hFg, hp, hc⟩ := (HO.out.keep hI.out.1 (fun _ _ _ f => f)).at hx
      injection he with he _ he3
      subst he; subst he3
      have hlt' : (k : Int) < s.es.length := by omega
      have HC := Lib.hid hc
      have H1 := Lib.hid hp.one
      have HT : Hid (s.es.take (k + 1) = s.es.take k ++ [x]) := Lib.hid (by rw [List.take_add_one, hx]; rfl)
      have HK : Hid (keptB s k = (s.careful && (freshB s k x && (x.fr.key && x.grant == latestL s.es)))) := Lib.hid (keptB_at hx)
      have HX := Lib.hid hx
      clear hc hp hg hs hx
      cases hcf : s.careful
      all_goals cases hfr : freshB s k x
      all_goals cases hky : x.fr.key
      all_goals by_cases hgr : x.grant = latestL s.es
      all_goals
        rw [hcf] at kb
        go_wp2_with (first
          | (refine wpList_at (.load 45 (.tmp 16)) rfl ?_; refine wpList_load_agg rfl 45 (.tmp 16) rfl g (off + k * 17) rfl (x.c pv) _ Try.underlying45 rfl (by kernel_rfl) HC.out ?_)
          | (refine wpList_at (.store 45 (.tmp 5) (.tmp 17)) rfl ?_; refine wpList_store_agg rfl 45 (.tmp 5) (.tmp 17) rfl wr.heap.size 0 rfl (x.c pv) rfl (by kernel_rfl) (blk_new _ _) (Nat.le_refl 17) H1.out ?_; obtain ⟨g0, gU⟩ := rng_copy wr zE 45 (x.c pv) rfl; revert g0 gU; generalize World.setCells _ wr.heap.size 0 (x.c pv) = W2; intro g0 gU; have GU := Lib.hid gU; clear gU; obtain ⟨kb2, kb2f⟩ := blk_walk (GU.out.blk HBR.out (fun f => f)); rw [hcf] at kb2; obtain ⟨k5, k5f⟩ := blk_walk g0; clear g0; simp only [En.c, hky, hgr] at k5)
          | (go_at_call 50; refine (c50 _ _ _ _ ((HQ.out.keep hI.out.1 (fun _ _ _ f => f)).keep GU.out (fun _ _ _ f => f)) k x HX.out HF.out).mono ?_; rintro e w1 ⟨rfl, rfl⟩))
      all_goals first
        | exact ⟨⟨k + 1, by omega, by go_num, rfl, Lib.hid ⟨hI.out.1.then0 GU.out, snoc_no hI.out.2 (by rw [HK.out, hcf, hfr, hky]; simp [hgr])⟩⟩, by simp [intOf]; omega⟩
        | (go_ret; exact ⟨ret_int (by rw [show keptL s = k from scan_hit hlt hI.out.2 (by rw [HK.out, hcf, hfr, hky]; simp [hgr])]), hI.out.1.then0 GU.out⟩)
    · obtain rfl : k = s.es.length := by omega
      clear HO
      go_wp2
      go_ret
      exact ⟨ret_int (by rw [show keptL s = s.es.length from scan_none hI.out.2]), hI.out.1⟩
end Go.Proofs.Ytaakmkkgnboedaa
