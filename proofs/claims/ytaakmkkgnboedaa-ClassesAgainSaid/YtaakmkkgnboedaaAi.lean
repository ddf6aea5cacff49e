/- Contracts of layer 19: packets that are sent again: New, and what Put asks. -/
import Derived.Test.YtaakmkkgnboedaaAh
namespace Go.Proofs.Ytaakmkkgnboedaa
open Go Go.RowKit Go.Kb
set_option linter.unusedVariables false
theorem c38 (n : Int) (hn : 1 ≤ n ∧ n ≤ 256) (w : World) :
    Calls Try.prog 38 #[.int .i64 n] w (Gives fun r w' => Upd No w w' ∧ ∃ b, r = .tuple #[.pointer (some ⟨b, 0, none⟩), .int .i64 0] ∧ ARep w' b ⟨n, []⟩ (From w.heap.size)) := by
  obtain ⟨h1, h2⟩ := hn
  go_enter Try.func38, Try.ntmps38
  go_wp2_with (go_at_call 48; refine (c48 n _).mono ?_; rintro e w1 ⟨rfl, u⟩; simp only [h1, h2, decide_true, Bool.and_true]; have U := Lib.hid (((Upd.refl No w).alloc (.cells #[.int .i64 n] 106)).then0 u); have k0 := cell_of_blk (u.blk (blk_new w (.cells #[.int .i64 n] 106)) (fun f => f)) 0; clear u)
  refine bodyPost_ret (v := .tuple #[.pointer (some ⟨w1.heap.size, 0, none⟩), .int .i64 0]) (by simp [results, Try.results38, go_sem]) rfl (Gives.mk ⟨U.out.alloc _, w1.heap.size, rfl, U.out.size, _, blk_new _ _, [], OC.nil _ _ _ _ _, rfl⟩)
theorem c38no (n : Int) (hn : ¬ (1 ≤ n ∧ n ≤ 256)) (w : World) :
    Calls Try.prog 38 #[.int .i64 n] w (Gives fun r w' => Upd No w w' ∧ r = .tuple #[.pointer none, .int .i64 2]) := by
  have hd : (decide (1 ≤ n) && decide (n ≤ 256)) = false := by simpa using hn
  clear hn
  go_enter Try.func38, Try.ntmps38
  go_wp2_with (go_at_call 48; refine (c48 n _).mono ?_; rintro e w1 ⟨rfl, u⟩; simp only [hd]; have U := Lib.hid (((Upd.refl No w).alloc (.cells #[.int .i64 n] 106)).then0 u); clear u)
  refine bodyPost_ret (v := .tuple #[.pointer none, .int .i64 2]) (by simp [results, Try.results38, go_sem]) rfl (Gives.mk ⟨U.out, rfl⟩)
theorem c64 (w : World) (n m : Int) (v : Value) (B : Nat) (hv : v.oneCell' = true) (hb : w.heap[B]? = some (.cells #[.int .u16 m] 36 (0, 0))) :
    Calls Try.prog 64 #[.agg #[.int .u16 n, v], .pointer (some ⟨B, 0, none⟩)] w fun e w' => e = .returned (.bool (n == m)) ∧ Upd No w w' := by
  obtain ⟨kb, kbf⟩ := blk_walk (blk_alloc hb (.cells #[.int .u16 n, v] 129))
  clear hb
  go_enter Try.func64, Try.ntmps64
  go_wp2
  go_ret
  exact ⟨rfl, (Upd.refl _ _).alloc _⟩
/-- The first place of a number; -1: none. -/
def seqAt (l : List Pk) (m : Int) : Int := match l.findIdx? (fun p => p.seq == m) with
  | some i => i
  | none => -1
theorem seqAt_hit {l : List Pk} {m : Int} {k : Nat} {x : Pk} (hx : l[k]? = some x) (hm : (x.seq == m) = true) (h : ∀ j y, j < k → l[j]? = some y → (y.seq == m) = false) : seqAt l m = k := by
  unfold seqAt
  have hk := (List.getElem?_eq_some_iff.1 hx)
  have : l.findIdx? (fun p => p.seq == m) = some k := by
    rw [List.findIdx?_eq_some_iff_getElem]
    refine ⟨hk.1, by rw [hk.2]; exact hm, fun j hj => ?_⟩
    have := h j _ hj (List.getElem?_eq_getElem (Nat.lt_trans hj hk.1))
    simpa using this
  rw [this]
theorem seqAt_none {l : List Pk} {m : Int} (h : ∀ j y, j < l.length → l[j]? = some y → (y.seq == m) = false) : seqAt l m = -1 := by
  unfold seqAt
  have : l.findIdx? (fun p => p.seq == m) = none := by
    rw [List.findIdx?_eq_none_iff]
    intro x hx
    obtain ⟨i, hi⟩ := List.getElem?_of_mem hx
    exact h i x (List.getElem?_eq_some_iff.1 hi).1 hi
  rw [this]
set_option maxRecDepth 100000 in
set_option maxHeartbeats 800000 in
theorem c71 (w : World) (v : Value) (l : List Pk) (F : Nat → Prop) (m : Int) (B : Nat) (h : OPks w v l F) (hf : Fits l.length) (hb : w.heap[B]? = some (.cells #[.int .u16 m] 36 (0, 0))) :
    Calls Try.prog 71 #[v, .func (.func 64) #[] #[.pointer (some ⟨B, 0, none⟩)]] w fun e w' => e = .returned (.int .i64 (seqAt l m)) ∧ Upd No w w' := by
  have hmax : l.length ≤ 60000 := hf
  obtain ⟨a0, cap0, rfl⟩ := h.slice
  have HQ := Lib.hid h
  have HB := Lib.hid hb
  clear h hb hf
  go_enter Try.func71, Try.ntmps71
  go_wp2
  go_loopw [8] (fun i wr => ∃ k : Nat, k ≤ l.length ∧ i = .int .i64 k ∧ Hid (Upd No w wr ∧ ∀ j y, j < k → l[j]? = some y → (y.seq == m) = false)) (fun i _ => l.length - (intOf i).toNat)
  case atStart => exact ⟨0, Nat.zero_le _, rfl, Lib.hid ⟨Upd.refl _ _, fun j y hj => absurd hj (Nat.not_lt_zero _)⟩⟩
  case round =>
    obtain ⟨k, hk, rfl, hI⟩ := hrel
    by_cases hlt : k < l.length
    · obtain ⟨x, hx⟩ : ∃ x, l[k]? = some x := ⟨_, List.getElem?_eq_getElem hlt⟩
      obtain ⟨g, off, cap, pv, cur, he, hcap, hg, hs, hFg, hp, hc⟩ := (HQ.out.keep hI.out.1 (fun _ _ _ f => f)).at hx
      injection he with he _ he3
      subst he; subst he3
      have hlt' : (k : Int) < l.length := by omega
      have HC := Lib.hid hc
      have HX := Lib.hid hx
      obtain ⟨a1, cap1, rfl⟩ := hp.slice
      clear hc hp hg hs hx
      cases hm : x.seq == m
      all_goals
        go_wp2_with (first
          | (refine wpList_at (.load 129 (.tmp 14)) rfl ?_; refine wpList_load_agg rfl 129 (.tmp 14) rfl g (off + k * 2) rfl [.int .u16 x.seq, .slice a1 x.b.length cap1] _ Try.underlying129 rfl (by kernel_rfl) HC.out ?_)
          | (go_at_call 64; refine (c64 _ _ m _ B rfl (hI.out.1.blk HB.out (fun f => f))).mono ?_; rintro e w1 ⟨rfl, u⟩; simp only [hm]; have U1 := Lib.hid u; clear u))
      · exact ⟨⟨k + 1, by omega, by go_num, Lib.hid ⟨hI.out.1.then0 U1.out, fun j y hj hy => by
          rcases Nat.lt_succ_iff_lt_or_eq.1 hj with h | rfl
          · exact hI.out.2 j y h hy
          · rw [HX.out] at hy
            cases hy
            exact hm⟩⟩, by simp [intOf]; omega⟩
      · go_ret
        exact ⟨ret_int (seqAt_hit HX.out hm hI.out.2).symm, hI.out.1.then0 U1.out⟩
    · obtain rfl : k = l.length := by omega
      go_wp2
      go_ret
      exact ⟨ret_int (seqAt_none hI.out.2).symm, hI.out.1⟩
theorem seqAt_ge (l : List Pk) (m : Int) : (0 ≤ seqAt l m) ↔ l.any (fun p => p.seq == m) = true := by
  unfold seqAt
  cases h : l.findIdx? (fun p => p.seq == m) with
  | none =>
    rw [List.findIdx?_eq_none_iff] at h
    simp at h ⊢
    exact h
  | some i =>
    rw [List.findIdx?_eq_some_iff_getElem] at h
    obtain ⟨h1, h2, _⟩ := h
    simp
    exact ⟨_, List.getElem_mem h1, by simpa using h2⟩
theorem c63 (w : World) (v : Value) (l : List Pk) (F : Nat → Prop) (m : Int) (B : Nat) (h : OPks w v l F) (hf : Fits l.length) (hb : w.heap[B]? = some (.cells #[.int .u16 m] 36 (0, 0))) :
    Calls Try.prog 63 #[v, .func (.func 64) #[] #[.pointer (some ⟨B, 0, none⟩)]] w fun e w' => e = .returned (.bool (l.any (fun p => p.seq == m))) ∧ Upd No w w' := by
  have HR : Hid (decide (0 ≤ seqAt l m) = l.any (fun p => p.seq == m)) := by rw [Bool.eq_iff_iff, decide_eq_true_eq]; exact seqAt_ge l m
  obtain ⟨a0, cap0, rfl⟩ := h.slice
  go_enter Try.func63, Try.ntmps63
  go_wp2_with (go_at_call 71; refine (c71 _ _ _ _ m B h hf hb).mono ?_; rintro e w1 ⟨rfl, u⟩; have U1 := Lib.hid u; clear u)
  go_ret
  exact ⟨ret_bool (by rw [← HR.out]), U1.out⟩
end Go.Proofs.Ytaakmkkgnboedaa
