/- Contracts of layer 19: what a queue is asked. -/
import Derived.Test.YtaakmkkgnboedaaB
namespace Go.Proofs.Ytaakmkkgnboedaa
open Go Go.RowKit Go.Kb
set_option maxRecDepth 100000 in
set_option maxHeartbeats 400000 in
theorem c50 (w : World) (b : Nat) (s : Q) (F : Nat → Prop) (h : QRep w b s F) (i : Nat) (x : En) (hi : s.es[i]? = some x) (hf : Fits s.es.length) :
    Calls Try.prog 50 #[.pointer (some ⟨b, 0, none⟩), .int .i64 i] w fun e w' => e = .returned (.bool (freshB s i x)) ∧ w = w' := by
  obtain ⟨hF, v, hb, hO⟩ := h
  obtain ⟨g, off, cap, pv, cur, rfl, hcap, hg, hs, hFg, hp, hc⟩ := hO.at hi
  have hlt := (List.getElem?_eq_some_iff.1 hi).1
  have hmax : s.es.length ≤ 60000 := hf
  obtain ⟨kb, kbf⟩ := blk_walk hb
  have k2 := hc 2 _ rfl
  clear hi hO hg hs hp hc hb hf
  have hlt' : (i : Int) < s.es.length := by omega
  cases hl : x.lost <;> by_cases hi : 0 < i
  all_goals
    rw [hl] at k2
    go_enter Try.func50, Try.ntmps50
    go_wp2
    go_ret
    simp [freshB, hl, hi]
set_option maxRecDepth 100000 in
set_option maxHeartbeats 400000 in
theorem c48 (n : Int) (w : World) : Calls Try.prog 48 #[.agg #[.int .i64 n]] w fun e w' => e = .returned (.bool (decide (1 ≤ n) && decide (n ≤ 256))) ∧ Upd No w w' := by
  go_enter Try.func48, Try.ntmps48
  go_wp2
  all_goals go_ret
  all_goals refine ⟨?_, (Upd.refl _ _).alloc _⟩
  · have h : 1 ≤ n := by assumption
    simp [h]
  · have h : n < 1 := by assumption
    simp [show ¬ 1 ≤ n by omega]
set_option maxRecDepth 100000 in
set_option maxHeartbeats 400000 in
theorem c62 (m n : Int) (w : World) : Calls Try.prog 62 #[.agg #[.int .i64 m], .int .i64 n] w fun e w' => e = .returned (.bool (decide (n > m))) ∧ Upd No w w' := by
  go_enter Try.func62, Try.ntmps62
  go_wp2
  all_goals go_ret
  all_goals refine ⟨?_, (Upd.refl _ _).alloc _⟩
  all_goals simp
set_option maxRecDepth 100000 in
set_option maxHeartbeats 400000 in
theorem c76 (x y : En) (v u : Value) (w : World) : Calls Try.prog 76 #[.agg (x.c v).toArray, .agg (y.c u).toArray] w fun e w' => e = .returned (.bool (joinsB x y)) ∧ Upd No w w' := by
  unfold En.c
  go_enter Try.func76, Try.ntmps76
  go_wp2
  all_goals go_ret
  all_goals refine ⟨?_, ((Upd.refl _ _).alloc _).alloc _⟩
  all_goals exact ret_bool (by simp [joinsB, *])
set_option maxRecDepth 100000 in
set_option maxHeartbeats 400000 in
theorem c70 (x : En) (v : Value) (hv : v.oneCell' = true) (w : World) : Calls Try.prog 70 #[.agg (x.c v).toArray] w (Gives fun r w' => r = .agg ((noteE x).c (.slice none 0 0)).toArray ∧ Upd No w w') := by
  unfold En.c
  go_enter Try.func70, Try.ntmps70
  go_wp2
  refine bodyPost_ret (results_cell_row (P := Try.prog) (fn := Try.f70) rfl _ _ _ _ _ _ _ rfl (blk_alloc (heap_alloc2_new w _ _) _) Try.underlying45 rfl (by kernel_rfl)) rfl (Gives.mk ⟨rfl, ?_⟩)
  exact (((Upd.refl _ _).alloc _).alloc _).alloc _
end Go.Proofs.Ytaakmkkgnboedaa
