/- Contracts of layer 19: the victim. -/
import Derived.Test.YtaakmkkgnboedaaG
namespace Go.Proofs.Ytaakmkkgnboedaa
open Go Go.RowKit Go.Kb

def freshI (s : Q) (i : Nat) : Bool := match s.es[i]? with
  | some x => freshB s i x
  | none => false
theorem freshI_at {s : Q} {i : Nat} {x : En} (h : s.es[i]? = some x) : freshI s i = freshB s i x := by unfold freshI; rw [h]
def aheadB (s : Q) (i : Nat) : Bool := decide (i < keptL s) && freshI s i
def lastOf (p : Nat → Bool) : Nat → Int
  | 0 => -1
  | k + 1 => if p k then k else lastOf p k
theorem lastOf_ge (p : Nat → Bool) : ∀ k, -1 ≤ lastOf p k ∧ lastOf p k < k
  | 0 => by simp [lastOf]
  | k + 1 => by
    have := lastOf_ge p k
    unfold lastOf
    split <;> omega
def victimL (s : Q) : Int := if scan (aheadB s) s.es.length < s.es.length then scan (aheadB s) s.es.length else lastOf (fun i => decide (keptL s < i) && freshI s i) s.es.length
set_option maxRecDepth 100000 in
set_option maxHeartbeats 800000 in
theorem c80 (w : World) (b Bk Bq : Nat) (s : Q) (F : Nat → Prop) (kp : Nat) (h : QRep w b s F) (i : Nat) (x : En) (hi : s.es[i]? = some x) (hf : Fits s.es.length)
    (hk : w.heap[Bk]? = some (.cells #[.int .i64 kp] 3 (0, 0))) (hq : w.heap[Bq]? = some (.cells #[.pointer (some ⟨b, 0, none⟩)] 26 (0, 0))) :
    Calls Try.prog 80 #[.int .i64 i, .pointer (some ⟨Bk, 0, none⟩), .pointer (some ⟨Bq, 0, none⟩)] w fun e w' => e = .returned (.bool (decide (i < kp) && freshB s i x)) ∧ w = w' := by
  obtain ⟨k1, k1f⟩ := blk_walk hk
  obtain ⟨k2, k2f⟩ := blk_walk hq
  have HQ := Lib.hid h
  have HX := Lib.hid hi
  have HF := Lib.hid hf
  clear h hi hf hk hq
  by_cases hlt : i < kp
  all_goals
    go_enter Try.func80, Try.ntmps80
    go_wp2_with (go_at_call 50; refine (c50 _ _ _ _ HQ.out i x HX.out HF.out).mono ?_; rintro e w1 ⟨rfl, rfl⟩)
    go_ret
    simp [hlt]
set_option maxRecDepth 100000 in
set_option maxHeartbeats 1600000 in
theorem c69 (w : World) (b : Nat) (s : Q) (F : Nat → Prop) (h : QRep w b s F) (hf : Fits s.es.length) :
    Calls Try.prog 69 #[.pointer (some ⟨b, 0, none⟩)] w fun e w' => e = .returned (.int .i64 (victimL s)) ∧ Upd No w w' := by
  have HQ := Lib.hid h
  obtain ⟨hF, v, hb, hO⟩ := HQ.out
  have hmax : s.es.length ≤ 60000 := hf
  obtain ⟨a0, cap0, rfl⟩ := hO.slice
  have HB := Lib.hid hb
  have HF := Lib.hid hf
  clear hO hb hf h
  go_enter Try.func69, Try.ntmps69
  go_wp2_with (go_at_call 79; refine (c79 _ _ _ _ (HQ.out.keep ((Upd.refl No _).alloc _) (fun _ _ _ f => f)) HF.out).mono ?_; rintro e w1 ⟨rfl, hu⟩; have HU0 := Lib.hid hu; have hq0 := hu.blk (blk_new w _) (fun f => f); obtain ⟨kq, kqf⟩ := blk_walk hq0; have hqs := blk_lt hq0; have hbs : b < w1.heap.size := Nat.lt_trans (blk_lt HB.out) hqs; have HU1 : Hid (Upd No w w1) := Lib.hid (((Upd.refl _ _).alloc _).then0 hu); obtain ⟨kb, kbf⟩ := blk_walk (HU1.out.blk HB.out (fun f => f)); have HQ0 := Lib.hid hq0; clear hu hq0)
  have hkp : Hid (keptL s ≤ s.es.length) := scan_le _ _
  obtain ⟨W, hW⟩ : ∃ W, W = w1.alloc (.cells #[.int .i64 (keptL s)] 3) := ⟨_, rfl⟩
  have HBk : Hid (W.heap[w1.heap.size]? = some (.cells #[.int .i64 (keptL s)] 3 (0, 0))) := by subst hW; exact blk_new _ _
  have HBq : Hid (W.heap[w.heap.size]? = some (.cells #[.pointer (some ⟨b, 0, none⟩)] 26 (0, 0))) := by subst hW; exact blk_alloc HQ0.out _
  have HU : Hid (Upd No w W) := by subst hW; exact HU1.out.alloc _
  rw [← hW]
  clear hW kb kbf kq kqf HQ0 HU0 HU1
  obtain ⟨kk, kkf⟩ := blk_walk HBk.out
  obtain ⟨kq, kqf⟩ := blk_walk HBq.out
  go_loopw [2, 4, 15] (fun n l i wr => wr = W ∧ ∃ k : Nat, k ≤ s.es.length ∧ i = .int .i64 k ∧ n = .int .i64 0 ∧ l = .int .i64 (lastOf (fun i => decide (keptL s < i) && freshI s i) k) ∧ Hid (∀ j, j < k → aheadB s j = false)) (fun _ _ i _ => s.es.length - (intOf i).toNat)
  case atStart => exact ⟨rfl, 0, Nat.zero_le _, rfl, rfl, rfl, Lib.hid (fun j hj => absurd hj (Nat.not_lt_zero _))⟩
  case round =>
    obtain ⟨rfl, k, hk, rfl, rfl, rfl, hI⟩ := hrel
    by_cases hlt : k < s.es.length
    · obtain ⟨x, hx⟩ : ∃ x, s.es[k]? = some x := ⟨_, List.getElem?_eq_getElem hlt⟩
      have HX := Lib.hid hx
      have HFX : Hid (freshI s k = freshB s k x) := Lib.hid (freshI_at hx)
      clear hx
      have hlt' : (k : Int) < s.es.length := by omega
      cases hfr : freshB s k x
      all_goals rcases (show (k < keptL s ∧ ¬ keptL s < k) ∨ (¬ k < keptL s ∧ ¬ keptL s < k) ∨ (¬ k < keptL s ∧ keptL s < k) by omega) with ⟨h1, h2⟩ | ⟨h1, h2⟩ | ⟨h1, h2⟩
      all_goals
        go_wp2_with (first
          | (go_at_call 80; refine (c80 _ b _ _ s F (keptL s) (HQ.out.keep HU.out (fun _ _ _ f => f)) k x HX.out HF.out HBk.out HBq.out).mono ?_; rintro e w1 ⟨rfl, rfl⟩; simp only [hfr, h1, decide_true, decide_false, Bool.and_true, Bool.and_false])
          | (go_at_call 50; refine (c50 _ _ _ _ (HQ.out.keep HU.out (fun _ _ _ f => f)) k x HX.out HF.out).mono ?_; rintro e w1 ⟨rfl, rfl⟩))
      all_goals first
        | exact ⟨⟨trivial, k + 1, by omega, by go_num, rfl, by simp [lastOf, HFX.out, hfr, h2], Lib.hid (snoc_no hI.out (by unfold aheadB; simp [HFX.out, hfr, h1]))⟩, by simp [intOf]; omega⟩
        | (go_ret; exact ⟨ret_int (by unfold victimL; rw [show scan (aheadB s) s.es.length = k from scan_hit hlt hI.out (by unfold aheadB; simp only [HFX.out, hfr, h1, decide_true, Bool.and_true]), if_pos hlt]), HU.out⟩)
    · obtain rfl : k = s.es.length := by omega
      go_wp2
      go_ret
      exact ⟨ret_int (by unfold victimL; rw [show scan (aheadB s) s.es.length = s.es.length from scan_none hI.out, if_neg (Nat.lt_irrefl _)]), HU.out⟩
end Go.Proofs.Ytaakmkkgnboedaa
