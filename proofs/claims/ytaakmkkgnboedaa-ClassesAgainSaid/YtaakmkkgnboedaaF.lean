/- Contract of layer 19: notes beside one another become one. (Its walk is printed by wip/tools/c68.py.) -/
import Derived.Test.YtaakmkkgnboedaaE
namespace Go.Proofs.Ytaakmkkgnboedaa
open Go Go.RowKit Go.Kb
/-- What there is when the counter stands at k. -/
def stage (l : List En) (at_ : Nat) (k : Int) : List En := if (at_ : Int) + 1 ≤ k then l else if (at_ : Int) = k then joinAt l (at_ + 1) else settleL l at_
theorem stage_pre (l : List En) (at_ m : Nat) (h : at_ ≤ m + 1) (h2 : m + 1 ≤ at_ + 1) : stage l at_ (m : Int) = joinAt (stage l at_ ((m : Int) + 1)) (m + 1) := by
  unfold stage
  rcases Nat.lt_or_ge at_ (m + 1) with h3 | h3
  · obtain rfl : at_ = m := by omega
    rw [if_neg (by omega), if_pos rfl, if_pos (by omega)]
  · obtain rfl : at_ = m + 1 := by omega
    rw [if_neg (by omega), if_neg (by omega), if_neg (by omega), if_pos (by omega)]
    rfl
theorem stage_end (l : List En) (at_ : Nat) (k : Int) (h : k < (at_ : Int) ∨ (k = 0 ∧ at_ = 0)) : stage l at_ k = settleL l at_ := by
  unfold stage
  rcases h with h | ⟨rfl, rfl⟩
  · rw [if_neg (by omega), if_neg (by omega)]
  · rw [if_neg (by omega), if_pos (by simp)]
    rfl
theorem stage_len (l : List En) (at_ : Nat) (k : Int) (hk : k ≤ (at_ : Int) + 1) (hl : k + 1 ≤ l.length) (hk0 : (at_ : Int) ≤ k) : k + 1 ≤ (stage l at_ k).length := by
  unfold stage
  split
  · exact hl
  · rw [if_pos (by omega)]
    rcases joinAt_length l (at_ + 1) with h | h <;> omega
theorem stage_fits {l : List En} (hf : Fits l.length) (at_ : Nat) (k : Int) : Fits (stage l at_ k).length := by
  unfold stage settleL Fits at *
  have h1 := joinAt_length l (at_ + 1)
  have h2 := joinAt_length (joinAt l (at_ + 1)) at_
  split
  · omega
  · split <;> omega
def I68 (w : World) (b : Nat) (s : Q) (F : Nat → Prop) (at_ : Nat) (k : Int) (wr : World) : Prop :=
  QRep wr b { s with es := stage s.es at_ k } F ∧ Upd F w wr
theorem I68.stay {w : World} {b : Nat} {s : Q} {F : Nat → Prop} {at_ m : Nat} {wr w1 : World} {x y : En} (h : I68 w b s F at_ ((m : Int) + 1) wr) (h1 : at_ ≤ m + 1) (h2 : m + 1 ≤ at_ + 1)
    (hx : (stage s.es at_ ((m : Int) + 1))[m]? = some x) (hy : (stage s.es at_ ((m : Int) + 1))[m + 1]? = some y) (hj : joinsB x y = false) (hu : Upd No wr w1) : I68 w b s F at_ (m : Int) w1 := by
  refine ⟨?_, h.2.then0 hu⟩
  rw [stage_pre s.es at_ m h1 h2, joinAt_eq _ m x y hx hy, hj]
  exact h.1.keep hu (fun _ _ _ f => f)
set_option linter.unusedSimpArgs false in
set_option maxRecDepth 100000 in
set_option maxHeartbeats 4000000 in
theorem c68 (w : World) (b : Nat) (s : Q) (F : Nat → Prop) (h : QRep w b s F) (hf : Fits s.es.length) (at_ : Nat) (hat : at_ < s.es.length) :
    Calls Try.prog 68 #[.pointer (some ⟨b, 0, none⟩), .int .i64 at_] w (Gives fun r w' => r = .tuple #[] ∧ QRep w' b { s with es := settleL s.es at_ } F ∧ Upd F w w') := by
  have hI0 : ∀ k : Int, (at_ : Int) ≤ k → (at_ : Int) + 1 ≤ k ∨ (s.es.length : Int) = at_ + 1 → I68 w b s F at_ k w := by
    intro k hk1 hk2
    refine ⟨?_, Upd.refl _ _⟩
    have e : stage s.es at_ k = s.es := by
      unfold stage
      split
      · rfl
      · rw [if_pos (by omega), joinAt_ge _ _ (by omega)]
    rw [e]
    exact h
  have HI0 := Lib.hid hI0
  obtain ⟨hF, v, hb, hO⟩ := h
  obtain ⟨a0, cap0, rfl⟩ := hO.slice
  have kb3 := cell_of_blk hb 3
  have hmax : s.es.length ≤ 60000 := hf
  clear hI0 hO hb
  go_enter Try.func68, Try.ntmps68
  go_wp2_with fail
  all_goals
    go_loopw [4] (fun i wr => ∃ k : Int, i = .int .i64 k ∧ k ≤ (at_ : Int) + 1 ∧ k + 1 ≤ (s.es.length : Int) ∧ ((at_ : Int) ≤ k + 1 ∧ 0 ≤ k) ∧ Hid (I68 w b s F at_ k wr)) (fun i _ => (intOf i).toNat)
    case atStart =>
      refine ⟨_, rfl, by omega, by omega, by omega, HI0.out _ (by omega) (by omega)⟩
    case round =>
      obtain ⟨k, rfl, hk1, hk2, ⟨hk3, hk4⟩, hI⟩ := hrel
      clear HI0
      by_cases hlo : (at_ : Int) ≤ k ∧ 1 ≤ k
      · obtain ⟨hl1, hl2⟩ := hlo
        obtain ⟨m, rfl⟩ : ∃ m : Nat, k = (m : Int) + 1 := ⟨(k - 1).toNat, by omega⟩
        have hlen := stage_len s.es at_ ((m : Int) + 1) hk1 hk2 hl1
        have hfit := stage_fits hf at_ ((m : Int) + 1)
        obtain ⟨⟨hF', v, hb, hO⟩, hU⟩ := hI.out
        obtain ⟨x, hx⟩ : ∃ x, (stage s.es at_ ((m : Int) + 1))[m]? = some x := ⟨_, List.getElem?_eq_getElem (by omega)⟩
        obtain ⟨y, hy⟩ : ∃ y, (stage s.es at_ ((m : Int) + 1))[m + 1]? = some y := ⟨_, List.getElem?_eq_getElem (by omega)⟩
        obtain ⟨g, off, cap, pv, cur, rfl, hcap, hg, hs, hFg, hp, hc⟩ := hO.at hx
        obtain ⟨g2, off2, cap2, pv2, cur2, he, -, -, -, -, hp2, hc2⟩ := hO.at hy
        cases he
        generalize hL : stage s.es at_ ((m : Int) + 1) = L at *
        have kb3 := cell_of_blk hb 3
        have hm0 : m < L.length := by omega
        have hm1 : (m : Int) < L.length := by omega
        have hm2 : (m : Int) + 1 < L.length := by omega
        have hm3 : m + 1 < L.length := by omega
        have hm4 : ((m : Int) + 1).toNat = m + 1 := by omega
        have hm5 : (0 : Int) ≤ (m : Int) + 1 := by omega
        have HL := Lib.hid hL
        have HX := Lib.hid hx
        have HY := Lib.hid hy
        have hfitn : L.length ≤ 60000 := hfit
        have hwm : IntKind.i64.wrap (m : Int) = m := by unfold IntKind.wrap; simp [IntKind.bits, IntKind.signed]; omega
        have HO := Lib.hid hO
        clear hL hx hy hO
        cases hj : joinsB x y
        · skip
          have HJ := Lib.hid hj
          go_wp2_with fail
          all_goals
            have hS0 : Upd No wr wr.drew := (Upd.refl _ _).drew
            refine wp_region_head 15 (S := Upd No wr) (by kernel_rfl) follows ?_
            refine take_at 0 (by kernel_rfl) (by kernel_rfl) (by kernel_rfl) hS0 ?_
            intro o ho; simp only [List.take_succ_cons, List.take_zero, List.getElem?_toArray, List.getElem?_cons_succ, List.getElem?_cons_zero, Option.some.injEq] at ho; subst ho
            refine take_mk (v := ?_) (fun w' hS => ?_) rfl ?_ ?_; rotate_left
            · (go_simp; (try with_reducible rfl))
            · exact fun _ _ _ h => h
            simp only [Act.put, List.setIfInBounds_toArray, List.set_cons_zero, List.set_cons_succ]
            refine take_at 1 (by kernel_rfl) (by kernel_rfl) (by kernel_rfl) hS0 ?_
            intro o ho; simp only [List.take_succ_cons, List.take_zero, List.getElem?_toArray, List.getElem?_cons_succ, List.getElem?_cons_zero, Option.some.injEq] at ho; subst ho
            refine take_mk (v := ?_) (fun w' hS => ?_) rfl ?_ ?_; rotate_left
            · (go_simp; (try with_reducible rfl))
            · exact fun _ _ _ h => h
            simp only [Act.put, List.setIfInBounds_toArray, List.set_cons_zero, List.set_cons_succ]
            refine take_at 2 (by kernel_rfl) (by kernel_rfl) (by kernel_rfl) hS0 ?_
            intro o ho; simp only [List.take_succ_cons, List.take_zero, List.getElem?_toArray, List.getElem?_cons_succ, List.getElem?_cons_zero, Option.some.injEq] at ho; subst ho
            refine take_mk (v := ?_) (fun w' hS => ?_) rfl ?_ ?_; rotate_left
            · (go_simp; (try with_reducible rfl))
            · exact fun _ _ _ h => h
            simp only [Act.put, List.setIfInBounds_toArray, List.set_cons_zero, List.set_cons_succ]
            refine take_at 3 (by kernel_rfl) (by kernel_rfl) (by kernel_rfl) hS0 ?_
            intro o ho; simp only [List.take_succ_cons, List.take_zero, List.getElem?_toArray, List.getElem?_cons_succ, List.getElem?_cons_zero, Option.some.injEq] at ho; subst ho
            refine take_mk (v := ?_) (fun w' hS => ?_) rfl ?_ ?_; rotate_left
            · (have h3 := hS.cell0 kb3; go_simp; (try with_reducible rfl))
            · exact fun _ _ _ h => h
            simp only [Act.put, List.setIfInBounds_toArray, List.set_cons_zero, List.set_cons_succ]
            refine take_at 4 (by kernel_rfl) (by kernel_rfl) (by kernel_rfl) hS0 ?_
            intro o ho; simp only [List.take_succ_cons, List.take_zero, List.getElem?_toArray, List.getElem?_cons_succ, List.getElem?_cons_zero, Option.some.injEq] at ho; subst ho
            refine take_mk (v := ?_) (fun w' hS => ?_) rfl ?_ ?_; rotate_left
            · (go_simp; (try with_reducible rfl))
            · exact fun _ _ _ h => h
            simp only [Act.put, List.setIfInBounds_toArray, List.set_cons_zero, List.set_cons_succ]
            refine take_at 5 (by kernel_rfl) (by kernel_rfl) (by kernel_rfl) hS0 ?_
            intro o ho; simp only [List.take_succ_cons, List.take_zero, List.getElem?_toArray, List.getElem?_cons_succ, List.getElem?_cons_zero, Option.some.injEq] at ho; subst ho
            refine take_mk (v := ?_) (fun w' hS => ?_) rfl ?_ ?_; rotate_left
            · (go_simp; (try with_reducible rfl))
            · exact fun _ _ _ h => h
            simp only [Act.put, List.setIfInBounds_toArray, List.set_cons_zero, List.set_cons_succ]
            refine take_at 6 (by kernel_rfl) (by kernel_rfl) (by kernel_rfl) hS0 ?_
            intro o ho; simp only [List.take_succ_cons, List.take_zero, List.getElem?_toArray, List.getElem?_cons_succ, List.getElem?_cons_zero, Option.some.injEq] at ho; subst ho
            refine take_mk (v := ?_) (fun w' hS => ?_) rfl ?_ ?_; rotate_left
            · (go_simp; (try with_reducible rfl))
            · exact fun _ _ _ h => h
            simp only [Act.put, List.setIfInBounds_toArray, List.set_cons_zero, List.set_cons_succ]
            refine take_at 7 (by kernel_rfl) (by kernel_rfl) (by kernel_rfl) hS0 ?_
            intro o ho; simp only [List.take_succ_cons, List.take_zero, List.getElem?_toArray, List.getElem?_cons_succ, List.getElem?_cons_zero, Option.some.injEq] at ho; subst ho
            refine take_mk (v := .agg (x.c pv).toArray) (fun w' hS => ?_) rfl ?_ ?_
            · exact run_load_agg 45 (.tmp 26) rfl (g) (off + m * 17) rfl (x.c pv) _ Try.underlying45 rfl (by kernel_rfl) (fun j u hj => hS.cell0 (hc j u hj))
            · exact fun _ _ _ h => h
            simp only [Act.put, List.setIfInBounds_toArray, List.set_cons_zero, List.set_cons_succ]
            refine take_at 8 (by kernel_rfl) (by kernel_rfl) (by kernel_rfl) hS0 ?_
            intro o ho; simp only [List.take_succ_cons, List.take_zero, List.getElem?_toArray, List.getElem?_cons_succ, List.getElem?_cons_zero, Option.some.injEq] at ho; subst ho
            refine take_mk (v := ?_) (fun w' hS => ?_) rfl ?_ ?_; rotate_left
            · (go_simp; (try with_reducible rfl))
            · exact fun _ _ _ h => h
            simp only [Act.put, List.setIfInBounds_toArray, List.set_cons_zero, List.set_cons_succ]
            refine take_at 9 (by kernel_rfl) (by kernel_rfl) (by kernel_rfl) hS0 ?_
            intro o ho; simp only [List.take_succ_cons, List.take_zero, List.getElem?_toArray, List.getElem?_cons_succ, List.getElem?_cons_zero, Option.some.injEq] at ho; subst ho
            refine take_mk (v := ?_) (fun w' hS => ?_) rfl ?_ ?_; rotate_left
            · (go_simp; (try with_reducible rfl))
            · exact fun _ _ _ h => h
            simp only [Act.put, List.setIfInBounds_toArray, List.set_cons_zero, List.set_cons_succ]
            refine take_at 10 (by kernel_rfl) (by kernel_rfl) (by kernel_rfl) hS0 ?_
            intro o ho; simp only [List.take_succ_cons, List.take_zero, List.getElem?_toArray, List.getElem?_cons_succ, List.getElem?_cons_zero, Option.some.injEq] at ho; subst ho
            refine take_mk (v := ?_) (fun w' hS => ?_) rfl ?_ ?_; rotate_left
            · (go_simp; (try with_reducible rfl))
            · exact fun _ _ _ h => h
            simp only [Act.put, List.setIfInBounds_toArray, List.set_cons_zero, List.set_cons_succ]
            refine take_at 11 (by kernel_rfl) (by kernel_rfl) (by kernel_rfl) hS0 ?_
            intro o ho; simp only [List.take_succ_cons, List.take_zero, List.getElem?_toArray, List.getElem?_cons_succ, List.getElem?_cons_zero, Option.some.injEq] at ho; subst ho
            refine take_mk (v := ?_) (fun w' hS => ?_) rfl ?_ ?_; rotate_left
            · (have h3 := hS.cell0 kb3; go_simp; (try with_reducible rfl))
            · exact fun _ _ _ h => h
            simp only [Act.put, List.setIfInBounds_toArray, List.set_cons_zero, List.set_cons_succ]
            refine take_at 12 (by kernel_rfl) (by kernel_rfl) (by kernel_rfl) hS0 ?_
            intro o ho; simp only [List.take_succ_cons, List.take_zero, List.getElem?_toArray, List.getElem?_cons_succ, List.getElem?_cons_zero, Option.some.injEq] at ho; subst ho
            refine take_mk (v := ?_) (fun w' hS => ?_) rfl ?_ ?_; rotate_left
            · (go_simp; (try with_reducible rfl))
            · exact fun _ _ _ h => h
            simp only [Act.put, List.setIfInBounds_toArray, List.set_cons_zero, List.set_cons_succ]
            refine take_at 13 (by kernel_rfl) (by kernel_rfl) (by kernel_rfl) hS0 ?_
            intro o ho; simp only [List.take_succ_cons, List.take_zero, List.getElem?_toArray, List.getElem?_cons_succ, List.getElem?_cons_zero, Option.some.injEq] at ho; subst ho
            refine take_mk (v := ?_) (fun w' hS => ?_) rfl ?_ ?_; rotate_left
            · (go_simp; (try with_reducible rfl))
            · exact fun _ _ _ h => h
            simp only [Act.put, List.setIfInBounds_toArray, List.set_cons_zero, List.set_cons_succ]
            refine take_at 14 (by kernel_rfl) (by kernel_rfl) (by kernel_rfl) hS0 ?_
            intro o ho; simp only [List.take_succ_cons, List.take_zero, List.getElem?_toArray, List.getElem?_cons_succ, List.getElem?_cons_zero, Option.some.injEq] at ho; subst ho
            refine take_mk (v := .agg (y.c pv2).toArray) (fun w' hS => ?_) rfl ?_ ?_
            · exact run_load_agg 45 (.tmp 33) rfl (g) (off + (m + 1) * 17) rfl (y.c pv2) _ Try.underlying45 rfl (by kernel_rfl) (fun j u hj => hS.cell0 (hc2 j u hj))
            · exact fun _ _ _ h => h
            simp only [Act.put, List.setIfInBounds_toArray, List.set_cons_zero, List.set_cons_succ]
            refine wpAnyH_done (by kernel_rfl) (headQ_normal ?_) _
            simp only [List.drop_succ_cons, List.drop_zero]
            go_wp2_with (first
              | (go_at_call 76; refine (c76 x y pv pv2 _).mono ?_; rintro e w1 ⟨rfl, hu⟩; rw [HJ.out]; have hu1 := ((Upd.refl No wr).drew).then0 hu; clear hu; have HU1 := Lib.hid hu1; have b1 := hu1.blk hb (fun f => f); have kb3' := cell_of_blk b1 3; clear hu1))
            refine ⟨⟨m, rfl, by omega, by omega, by omega, I68.stay hI.out (by omega) (by omega) (by rw [HL.out]; exact HX.out) (by rw [HL.out]; exact HY.out) HJ.out HU1.out⟩, by simp [intOf]⟩
        · skip
          have HJ := Lib.hid hj
          go_wp2_with fail
          all_goals
            have hS0 : Upd No wr wr.drew := (Upd.refl _ _).drew
            refine wp_region_head 15 (S := Upd No wr) (by kernel_rfl) follows ?_
            refine take_at 0 (by kernel_rfl) (by kernel_rfl) (by kernel_rfl) hS0 ?_
            intro o ho; simp only [List.take_succ_cons, List.take_zero, List.getElem?_toArray, List.getElem?_cons_succ, List.getElem?_cons_zero, Option.some.injEq] at ho; subst ho
            refine take_mk (v := ?_) (fun w' hS => ?_) rfl ?_ ?_; rotate_left
            · (go_simp; (try with_reducible rfl))
            · exact fun _ _ _ h => h
            simp only [Act.put, List.setIfInBounds_toArray, List.set_cons_zero, List.set_cons_succ]
            refine take_at 1 (by kernel_rfl) (by kernel_rfl) (by kernel_rfl) hS0 ?_
            intro o ho; simp only [List.take_succ_cons, List.take_zero, List.getElem?_toArray, List.getElem?_cons_succ, List.getElem?_cons_zero, Option.some.injEq] at ho; subst ho
            refine take_mk (v := ?_) (fun w' hS => ?_) rfl ?_ ?_; rotate_left
            · (go_simp; (try with_reducible rfl))
            · exact fun _ _ _ h => h
            simp only [Act.put, List.setIfInBounds_toArray, List.set_cons_zero, List.set_cons_succ]
            refine take_at 2 (by kernel_rfl) (by kernel_rfl) (by kernel_rfl) hS0 ?_
            intro o ho; simp only [List.take_succ_cons, List.take_zero, List.getElem?_toArray, List.getElem?_cons_succ, List.getElem?_cons_zero, Option.some.injEq] at ho; subst ho
            refine take_mk (v := ?_) (fun w' hS => ?_) rfl ?_ ?_; rotate_left
            · (go_simp; (try with_reducible rfl))
            · exact fun _ _ _ h => h
            simp only [Act.put, List.setIfInBounds_toArray, List.set_cons_zero, List.set_cons_succ]
            refine take_at 3 (by kernel_rfl) (by kernel_rfl) (by kernel_rfl) hS0 ?_
            intro o ho; simp only [List.take_succ_cons, List.take_zero, List.getElem?_toArray, List.getElem?_cons_succ, List.getElem?_cons_zero, Option.some.injEq] at ho; subst ho
            refine take_mk (v := ?_) (fun w' hS => ?_) rfl ?_ ?_; rotate_left
            · (have h3 := hS.cell0 kb3; go_simp; (try with_reducible rfl))
            · exact fun _ _ _ h => h
            simp only [Act.put, List.setIfInBounds_toArray, List.set_cons_zero, List.set_cons_succ]
            refine take_at 4 (by kernel_rfl) (by kernel_rfl) (by kernel_rfl) hS0 ?_
            intro o ho; simp only [List.take_succ_cons, List.take_zero, List.getElem?_toArray, List.getElem?_cons_succ, List.getElem?_cons_zero, Option.some.injEq] at ho; subst ho
            refine take_mk (v := ?_) (fun w' hS => ?_) rfl ?_ ?_; rotate_left
            · (go_simp; (try with_reducible rfl))
            · exact fun _ _ _ h => h
            simp only [Act.put, List.setIfInBounds_toArray, List.set_cons_zero, List.set_cons_succ]
            refine take_at 5 (by kernel_rfl) (by kernel_rfl) (by kernel_rfl) hS0 ?_
            intro o ho; simp only [List.take_succ_cons, List.take_zero, List.getElem?_toArray, List.getElem?_cons_succ, List.getElem?_cons_zero, Option.some.injEq] at ho; subst ho
            refine take_mk (v := ?_) (fun w' hS => ?_) rfl ?_ ?_; rotate_left
            · (go_simp; (try with_reducible rfl))
            · exact fun _ _ _ h => h
            simp only [Act.put, List.setIfInBounds_toArray, List.set_cons_zero, List.set_cons_succ]
            refine take_at 6 (by kernel_rfl) (by kernel_rfl) (by kernel_rfl) hS0 ?_
            intro o ho; simp only [List.take_succ_cons, List.take_zero, List.getElem?_toArray, List.getElem?_cons_succ, List.getElem?_cons_zero, Option.some.injEq] at ho; subst ho
            refine take_mk (v := ?_) (fun w' hS => ?_) rfl ?_ ?_; rotate_left
            · (go_simp; (try with_reducible rfl))
            · exact fun _ _ _ h => h
            simp only [Act.put, List.setIfInBounds_toArray, List.set_cons_zero, List.set_cons_succ]
            refine take_at 7 (by kernel_rfl) (by kernel_rfl) (by kernel_rfl) hS0 ?_
            intro o ho; simp only [List.take_succ_cons, List.take_zero, List.getElem?_toArray, List.getElem?_cons_succ, List.getElem?_cons_zero, Option.some.injEq] at ho; subst ho
            refine take_mk (v := .agg (x.c pv).toArray) (fun w' hS => ?_) rfl ?_ ?_
            · exact run_load_agg 45 (.tmp 26) rfl (g) (off + m * 17) rfl (x.c pv) _ Try.underlying45 rfl (by kernel_rfl) (fun j u hj => hS.cell0 (hc j u hj))
            · exact fun _ _ _ h => h
            simp only [Act.put, List.setIfInBounds_toArray, List.set_cons_zero, List.set_cons_succ]
            refine take_at 8 (by kernel_rfl) (by kernel_rfl) (by kernel_rfl) hS0 ?_
            intro o ho; simp only [List.take_succ_cons, List.take_zero, List.getElem?_toArray, List.getElem?_cons_succ, List.getElem?_cons_zero, Option.some.injEq] at ho; subst ho
            refine take_mk (v := ?_) (fun w' hS => ?_) rfl ?_ ?_; rotate_left
            · (go_simp; (try with_reducible rfl))
            · exact fun _ _ _ h => h
            simp only [Act.put, List.setIfInBounds_toArray, List.set_cons_zero, List.set_cons_succ]
            refine take_at 9 (by kernel_rfl) (by kernel_rfl) (by kernel_rfl) hS0 ?_
            intro o ho; simp only [List.take_succ_cons, List.take_zero, List.getElem?_toArray, List.getElem?_cons_succ, List.getElem?_cons_zero, Option.some.injEq] at ho; subst ho
            refine take_mk (v := ?_) (fun w' hS => ?_) rfl ?_ ?_; rotate_left
            · (go_simp; (try with_reducible rfl))
            · exact fun _ _ _ h => h
            simp only [Act.put, List.setIfInBounds_toArray, List.set_cons_zero, List.set_cons_succ]
            refine take_at 10 (by kernel_rfl) (by kernel_rfl) (by kernel_rfl) hS0 ?_
            intro o ho; simp only [List.take_succ_cons, List.take_zero, List.getElem?_toArray, List.getElem?_cons_succ, List.getElem?_cons_zero, Option.some.injEq] at ho; subst ho
            refine take_mk (v := ?_) (fun w' hS => ?_) rfl ?_ ?_; rotate_left
            · (go_simp; (try with_reducible rfl))
            · exact fun _ _ _ h => h
            simp only [Act.put, List.setIfInBounds_toArray, List.set_cons_zero, List.set_cons_succ]
            refine take_at 11 (by kernel_rfl) (by kernel_rfl) (by kernel_rfl) hS0 ?_
            intro o ho; simp only [List.take_succ_cons, List.take_zero, List.getElem?_toArray, List.getElem?_cons_succ, List.getElem?_cons_zero, Option.some.injEq] at ho; subst ho
            refine take_mk (v := ?_) (fun w' hS => ?_) rfl ?_ ?_; rotate_left
            · (have h3 := hS.cell0 kb3; go_simp; (try with_reducible rfl))
            · exact fun _ _ _ h => h
            simp only [Act.put, List.setIfInBounds_toArray, List.set_cons_zero, List.set_cons_succ]
            refine take_at 12 (by kernel_rfl) (by kernel_rfl) (by kernel_rfl) hS0 ?_
            intro o ho; simp only [List.take_succ_cons, List.take_zero, List.getElem?_toArray, List.getElem?_cons_succ, List.getElem?_cons_zero, Option.some.injEq] at ho; subst ho
            refine take_mk (v := ?_) (fun w' hS => ?_) rfl ?_ ?_; rotate_left
            · (go_simp; (try with_reducible rfl))
            · exact fun _ _ _ h => h
            simp only [Act.put, List.setIfInBounds_toArray, List.set_cons_zero, List.set_cons_succ]
            refine take_at 13 (by kernel_rfl) (by kernel_rfl) (by kernel_rfl) hS0 ?_
            intro o ho; simp only [List.take_succ_cons, List.take_zero, List.getElem?_toArray, List.getElem?_cons_succ, List.getElem?_cons_zero, Option.some.injEq] at ho; subst ho
            refine take_mk (v := ?_) (fun w' hS => ?_) rfl ?_ ?_; rotate_left
            · (go_simp; (try with_reducible rfl))
            · exact fun _ _ _ h => h
            simp only [Act.put, List.setIfInBounds_toArray, List.set_cons_zero, List.set_cons_succ]
            refine take_at 14 (by kernel_rfl) (by kernel_rfl) (by kernel_rfl) hS0 ?_
            intro o ho; simp only [List.take_succ_cons, List.take_zero, List.getElem?_toArray, List.getElem?_cons_succ, List.getElem?_cons_zero, Option.some.injEq] at ho; subst ho
            refine take_mk (v := .agg (y.c pv2).toArray) (fun w' hS => ?_) rfl ?_ ?_
            · exact run_load_agg 45 (.tmp 33) rfl (g) (off + (m + 1) * 17) rfl (y.c pv2) _ Try.underlying45 rfl (by kernel_rfl) (fun j u hj => hS.cell0 (hc2 j u hj))
            · exact fun _ _ _ h => h
            simp only [Act.put, List.setIfInBounds_toArray, List.set_cons_zero, List.set_cons_succ]
            refine wpAnyH_done (by kernel_rfl) (headQ_normal ?_) _
            simp only [List.drop_succ_cons, List.drop_zero]
            go_wp2_with (first
              | (go_at_call 76; refine (c76 x y pv pv2 _).mono ?_; rintro e w1 ⟨rfl, hu⟩; rw [HJ.out]; have hu1 := ((Upd.refl No wr).drew).then0 hu; clear hu; have HU1 := Lib.hid hu1; have b1 := hu1.blk hb (fun f => f); have kb3' := cell_of_blk b1 3; clear hu1))
            have kg1 : ∀ j u, (x.c pv)[j]? = some u → w1.cell? ⟨g, off + m * 17 + j, none⟩ = some u := fun j u hj => HU1.out.cell0 (hc j u hj)
            have kg2 : ∀ j u, (y.c pv2)[j]? = some u → w1.cell? ⟨g, off + (m + 1) * 17 + j, none⟩ = some u := fun j u hj => HU1.out.cell0 (hc2 j u hj)
            have hS1 : Upd No w1 w1.drew := (Upd.refl _ _).drew
            refine wp_region_head 22 (S := Upd No w1) (by kernel_rfl) follows ?_
            refine take_at 0 (by kernel_rfl) (by kernel_rfl) (by kernel_rfl) hS1 ?_
            intro o ho; simp only [List.take_succ_cons, List.take_zero, List.getElem?_toArray, List.getElem?_cons_succ, List.getElem?_cons_zero, Option.some.injEq] at ho; subst ho
            refine take_mk (v := ?_) (fun w' hS => ?_) rfl ?_ ?_; rotate_left
            · (go_simp; (try with_reducible rfl))
            · exact fun _ _ _ h => h
            simp only [Act.put, List.setIfInBounds_toArray, List.set_cons_zero, List.set_cons_succ]
            refine take_at 1 (by kernel_rfl) (by kernel_rfl) (by kernel_rfl) hS1 ?_
            intro o ho; simp only [List.take_succ_cons, List.take_zero, List.getElem?_toArray, List.getElem?_cons_succ, List.getElem?_cons_zero, Option.some.injEq] at ho; subst ho
            refine take_mk (v := ?_) (fun w' hS => ?_) rfl ?_ ?_; rotate_left
            · (go_simp; (try with_reducible rfl))
            · exact fun _ _ _ h => h
            simp only [Act.put, List.setIfInBounds_toArray, List.set_cons_zero, List.set_cons_succ]
            refine take_at 2 (by kernel_rfl) (by kernel_rfl) (by kernel_rfl) hS1 ?_
            intro o ho; simp only [List.take_succ_cons, List.take_zero, List.getElem?_toArray, List.getElem?_cons_succ, List.getElem?_cons_zero, Option.some.injEq] at ho; subst ho
            refine take_mk (v := ?_) (fun w' hS => ?_) rfl ?_ ?_; rotate_left
            · (go_simp; (try with_reducible rfl))
            · exact fun _ _ _ h => h
            simp only [Act.put, List.setIfInBounds_toArray, List.set_cons_zero, List.set_cons_succ]
            refine take_at 3 (by kernel_rfl) (by kernel_rfl) (by kernel_rfl) hS1 ?_
            intro o ho; simp only [List.take_succ_cons, List.take_zero, List.getElem?_toArray, List.getElem?_cons_succ, List.getElem?_cons_zero, Option.some.injEq] at ho; subst ho
            refine take_mk (v := ?_) (fun w' hS => ?_) rfl ?_ ?_; rotate_left
            · (have h3 := hS.cell0 kb3'; go_simp; (try with_reducible rfl))
            · exact fun _ _ _ h => h
            simp only [Act.put, List.setIfInBounds_toArray, List.set_cons_zero, List.set_cons_succ]
            refine take_at 4 (by kernel_rfl) (by kernel_rfl) (by kernel_rfl) hS1 ?_
            intro o ho; simp only [List.take_succ_cons, List.take_zero, List.getElem?_toArray, List.getElem?_cons_succ, List.getElem?_cons_zero, Option.some.injEq] at ho; subst ho
            refine take_mk (v := ?_) (fun w' hS => ?_) rfl ?_ ?_; rotate_left
            · (go_simp; (try with_reducible rfl))
            · exact fun _ _ _ h => h
            simp only [Act.put, List.setIfInBounds_toArray, List.set_cons_zero, List.set_cons_succ]
            refine take_at 5 (by kernel_rfl) (by kernel_rfl) (by kernel_rfl) hS1 ?_
            intro o ho; simp only [List.take_succ_cons, List.take_zero, List.getElem?_toArray, List.getElem?_cons_succ, List.getElem?_cons_zero, Option.some.injEq] at ho; subst ho
            refine take_mk (v := ?_) (fun w' hS => ?_) rfl ?_ ?_; rotate_left
            · (go_simp; (try with_reducible rfl))
            · exact fun _ _ _ h => h
            simp only [Act.put, List.setIfInBounds_toArray, List.set_cons_zero, List.set_cons_succ]
            refine take_at 6 (by kernel_rfl) (by kernel_rfl) (by kernel_rfl) hS1 ?_
            intro o ho; simp only [List.take_succ_cons, List.take_zero, List.getElem?_toArray, List.getElem?_cons_succ, List.getElem?_cons_zero, Option.some.injEq] at ho; subst ho
            refine take_mk (v := ?_) (fun w' hS => ?_) rfl ?_ ?_; rotate_left
            · (go_simp; (try with_reducible rfl))
            · exact fun _ _ _ h => h
            simp only [Act.put, List.setIfInBounds_toArray, List.set_cons_zero, List.set_cons_succ]
            refine take_at 7 (by kernel_rfl) (by kernel_rfl) (by kernel_rfl) hS1 ?_
            intro o ho; simp only [List.take_succ_cons, List.take_zero, List.getElem?_toArray, List.getElem?_cons_succ, List.getElem?_cons_zero, Option.some.injEq] at ho; subst ho
            refine take_mk (v := ?_) (fun w' hS => ?_) rfl ?_ ?_; rotate_left
            · (go_simp; (try with_reducible rfl))
            · exact fun _ _ _ h => h
            simp only [Act.put, List.setIfInBounds_toArray, List.set_cons_zero, List.set_cons_succ]
            refine take_at 8 (by kernel_rfl) (by kernel_rfl) (by kernel_rfl) hS1 ?_
            intro o ho; simp only [List.take_succ_cons, List.take_zero, List.getElem?_toArray, List.getElem?_cons_succ, List.getElem?_cons_zero, Option.some.injEq] at ho; subst ho
            refine take_mk (v := ?_) (fun w' hS => ?_) rfl ?_ ?_; rotate_left
            · (go_simp; (try with_reducible rfl))
            · exact fun _ _ _ h => h
            simp only [Act.put, List.setIfInBounds_toArray, List.set_cons_zero, List.set_cons_succ]
            refine take_at 9 (by kernel_rfl) (by kernel_rfl) (by kernel_rfl) hS1 ?_
            intro o ho; simp only [List.take_succ_cons, List.take_zero, List.getElem?_toArray, List.getElem?_cons_succ, List.getElem?_cons_zero, Option.some.injEq] at ho; subst ho
            refine take_mk (v := ?_) (fun w' hS => ?_) rfl ?_ ?_; rotate_left
            · (have h3 := hS.cell0 kb3'; go_simp; (try with_reducible rfl))
            · exact fun _ _ _ h => h
            simp only [Act.put, List.setIfInBounds_toArray, List.set_cons_zero, List.set_cons_succ]
            refine take_at 10 (by kernel_rfl) (by kernel_rfl) (by kernel_rfl) hS1 ?_
            intro o ho; simp only [List.take_succ_cons, List.take_zero, List.getElem?_toArray, List.getElem?_cons_succ, List.getElem?_cons_zero, Option.some.injEq] at ho; subst ho
            refine take_mk (v := ?_) (fun w' hS => ?_) rfl ?_ ?_; rotate_left
            · (go_simp; (try with_reducible rfl))
            · exact fun _ _ _ h => h
            simp only [Act.put, List.setIfInBounds_toArray, List.set_cons_zero, List.set_cons_succ]
            refine take_at 11 (by kernel_rfl) (by kernel_rfl) (by kernel_rfl) hS1 ?_
            intro o ho; simp only [List.take_succ_cons, List.take_zero, List.getElem?_toArray, List.getElem?_cons_succ, List.getElem?_cons_zero, Option.some.injEq] at ho; subst ho
            refine take_mk (v := ?_) (fun w' hS => ?_) rfl ?_ ?_; rotate_left
            · (go_simp; (try with_reducible rfl))
            · exact fun _ _ _ h => h
            simp only [Act.put, List.setIfInBounds_toArray, List.set_cons_zero, List.set_cons_succ]
            refine take_at 12 (by kernel_rfl) (by kernel_rfl) (by kernel_rfl) hS1 ?_
            intro o ho; simp only [List.take_succ_cons, List.take_zero, List.getElem?_toArray, List.getElem?_cons_succ, List.getElem?_cons_zero, Option.some.injEq] at ho; subst ho
            refine take_mk (v := ?_) (fun w' hS => ?_) rfl ?_ ?_; rotate_left
            · (go_simp; (try with_reducible rfl))
            · exact fun _ _ _ h => h
            simp only [Act.put, List.setIfInBounds_toArray, List.set_cons_zero, List.set_cons_succ]
            refine take_at 13 (by kernel_rfl) (by kernel_rfl) (by kernel_rfl) hS1 ?_
            intro o ho; simp only [List.take_succ_cons, List.take_zero, List.getElem?_toArray, List.getElem?_cons_succ, List.getElem?_cons_zero, Option.some.injEq] at ho; subst ho
            refine take_mk (v := .agg (x.c pv).toArray) (fun w' hS => ?_) rfl ?_ ?_
            · exact run_load_agg 45 (.tmp 48) rfl (g) (off + m * 17) rfl (x.c pv) _ Try.underlying45 rfl (by kernel_rfl) (fun j u hj => hS.cell0 (kg1 j u hj))
            · exact fun _ _ _ h => h
            simp only [Act.put, List.setIfInBounds_toArray, List.set_cons_zero, List.set_cons_succ]
            refine take_at 14 (by kernel_rfl) (by kernel_rfl) (by kernel_rfl) hS1 ?_
            intro o ho; simp only [List.take_succ_cons, List.take_zero, List.getElem?_toArray, List.getElem?_cons_succ, List.getElem?_cons_zero, Option.some.injEq] at ho; subst ho
            refine take_mk (v := ?_) (fun w' hS => ?_) rfl ?_ ?_; rotate_left
            · (go_simp; (try with_reducible rfl))
            · exact fun _ _ _ h => h
            simp only [Act.put, List.setIfInBounds_toArray, List.set_cons_zero, List.set_cons_succ]
            refine take_at 15 (by kernel_rfl) (by kernel_rfl) (by kernel_rfl) hS1 ?_
            intro o ho; simp only [List.take_succ_cons, List.take_zero, List.getElem?_toArray, List.getElem?_cons_succ, List.getElem?_cons_zero, Option.some.injEq] at ho; subst ho
            refine take_mk (v := ?_) (fun w' hS => ?_) rfl ?_ ?_; rotate_left
            · (go_simp; (try with_reducible rfl))
            · exact fun _ _ _ h => h
            simp only [Act.put, List.setIfInBounds_toArray, List.set_cons_zero, List.set_cons_succ]
            refine take_at 16 (by kernel_rfl) (by kernel_rfl) (by kernel_rfl) hS1 ?_
            intro o ho; simp only [List.take_succ_cons, List.take_zero, List.getElem?_toArray, List.getElem?_cons_succ, List.getElem?_cons_zero, Option.some.injEq] at ho; subst ho
            refine take_mk (v := ?_) (fun w' hS => ?_) rfl ?_ ?_; rotate_left
            · (go_simp; (try with_reducible rfl))
            · exact fun _ _ _ h => h
            simp only [Act.put, List.setIfInBounds_toArray, List.set_cons_zero, List.set_cons_succ]
            refine take_at 17 (by kernel_rfl) (by kernel_rfl) (by kernel_rfl) hS1 ?_
            intro o ho; simp only [List.take_succ_cons, List.take_zero, List.getElem?_toArray, List.getElem?_cons_succ, List.getElem?_cons_zero, Option.some.injEq] at ho; subst ho
            refine take_mk (v := ?_) (fun w' hS => ?_) rfl ?_ ?_; rotate_left
            · (have h3 := hS.cell0 kb3'; go_simp; (try with_reducible rfl))
            · exact fun _ _ _ h => h
            simp only [Act.put, List.setIfInBounds_toArray, List.set_cons_zero, List.set_cons_succ]
            refine take_at 18 (by kernel_rfl) (by kernel_rfl) (by kernel_rfl) hS1 ?_
            intro o ho; simp only [List.take_succ_cons, List.take_zero, List.getElem?_toArray, List.getElem?_cons_succ, List.getElem?_cons_zero, Option.some.injEq] at ho; subst ho
            refine take_mk (v := ?_) (fun w' hS => ?_) rfl ?_ ?_; rotate_left
            · (go_simp; (try with_reducible rfl))
            · exact fun _ _ _ h => h
            simp only [Act.put, List.setIfInBounds_toArray, List.set_cons_zero, List.set_cons_succ]
            refine take_at 19 (by kernel_rfl) (by kernel_rfl) (by kernel_rfl) hS1 ?_
            intro o ho; simp only [List.take_succ_cons, List.take_zero, List.getElem?_toArray, List.getElem?_cons_succ, List.getElem?_cons_zero, Option.some.injEq] at ho; subst ho
            refine take_mk (v := ?_) (fun w' hS => ?_) rfl ?_ ?_; rotate_left
            · (go_simp; (try with_reducible rfl))
            · exact fun _ _ _ h => h
            simp only [Act.put, List.setIfInBounds_toArray, List.set_cons_zero, List.set_cons_succ]
            refine take_at 20 (by kernel_rfl) (by kernel_rfl) (by kernel_rfl) hS1 ?_
            intro o ho; simp only [List.take_succ_cons, List.take_zero, List.getElem?_toArray, List.getElem?_cons_succ, List.getElem?_cons_zero, Option.some.injEq] at ho; subst ho
            refine take_mk (v := .agg (y.c pv2).toArray) (fun w' hS => ?_) rfl ?_ ?_
            · exact run_load_agg 45 (.tmp 55) rfl (g) (off + (m + 1) * 17) rfl (y.c pv2) _ Try.underlying45 rfl (by kernel_rfl) (fun j u hj => hS.cell0 (kg2 j u hj))
            · exact fun _ _ _ h => h
            simp only [Act.put, List.setIfInBounds_toArray, List.set_cons_zero, List.set_cons_succ]
            refine do_one 21 (by kernel_rfl) ?_
            intro o ho; simp only [List.take_succ_cons, List.take_zero, List.getElem?_toArray, List.getElem?_cons_succ, List.getElem?_cons_zero, Option.some.injEq] at ho; subst ho; intro K hK; refine if_take (by rfl) ?_
            go_wp2_with (first | (go_at_call 77; refine (c77 x y pv pv2 hp.one hp2.one _).mono ?_; rintro e w2 ⟨r, rfl, rfl, hu⟩))
            have HU2 : Hid (Upd No w1 w2) := hS1.then0 hu
            refine hK _ _ HU2.out ?_
            clear hK K hu hS1
            refine wpAnyH_done (by kernel_rfl) (headQ_normal ?_) _
            simp only [List.drop_succ_cons, List.drop_zero]
            have hgb : g ≠ b := hFg.2
            have q2 := HU2.out.blk (HU1.out.blk hg (fun f => f)) (fun f => f)
            have q3 := HU2.out.blk b1 (fun f => f)
            have hU12 := HU1.out.then0 HU2.out
            obtain ⟨cs3, o3, one3, e3⟩ := put_mem HO.out hm0 (joinedE_parts x y) (joinedE_one x y) hU12
            have q4 := (Upd.setsO w2 g (off + m * 17) ((joinedE x y).c (.slice none 0 0))).blk q3 (not_only (Ne.symm hgb))
            have kq4 := cell_of_blk q4 3
            have hcast : ((m + 1 : Nat) : Int) = (m : Int) + 1 := by omega
            have hF3 : Fits L.length := hfit
            have H3 := Lib.hid o3.only
            have ONE3 := Lib.hid one3
            have E3 := Lib.hid e3
            have HC := Lib.hid hcast
            have hFg' := hFg.1
            clear o3 one3 e3 hcast hU12 q3
            go_wp2_with (first
              | (refine wpList_at (.store 45 (.tmp 58) (.tmp 57)) rfl ?_; refine wpList_store_agg rfl 45 (.tmp 58) (.tmp 57) rfl g (off + m * 17) rfl ((joinedE x y).c (.slice none 0 0)) rfl (by kernel_rfl) q2 (Nat.le_trans (show off + m * 17 + 17 ≤ off + cap * 17 by omega) hs) (joinedE_one x y) ?_)
              | (go_at_call 78; have H := c78 _ _ _ _ _ H3.out ONE3.out hF3 (m + 1) hm3; rw [HC.out] at H; refine H.mono ?_; rintro e w4 ⟨r, rfl, ho4, hu4⟩; obtain ⟨a4, cap4, rfl, -⟩ := ho4.slice; have q5 := hu4.blk q4 (not_only (Ne.symm hgb)); obtain ⟨kq5, kq5f⟩ := blk_walk q5; have HO4 := Lib.hid ho4; have HU4 := Lib.hid hu4; clear ho4 hu4 H))
            refine ⟨⟨m, rfl, by omega, by omega, by omega, ⟨?_, ?_⟩⟩, by simp [intOf]⟩
            · rw [stage_pre s.es at_ m (by omega) (by omega), HL.out, joinAt_eq _ m x y HX.out HY.out, HJ.out]
              exact del_mem (L := L.set m (joinedE x y)) q5 hF' hFg' hgb (by rw [List.length_set]; exact E3.out) (by rw [List.length_set]; exact hm3) (by rw [List.length_set]; exact HO4.out) HU4.out
            · have u1 := ((hU.then0 HU1.out).then0 HU2.out).trans (Upd.setsO w2 g (off + m * 17) ((joinedE x y).c (.slice none 0 0))) (fun k _ e => by have : k = g := e; subst this; exact hFg')
              exact (u1.trans HU4.out (fun k _ e => by have : k = g := e; subst this; exact hFg')).trans (Upd.set1 w4 b 3 _) (fun k _ e => by have : k = b := e; subst this; exact hF')
      · have hlo' : k < (at_ : Int) ∨ (k = 0 ∧ at_ = 0) := by omega
        obtain ⟨hq1, hq2⟩ := hI.out
        rw [stage_end _ _ _ hlo'] at hq1
        have HQ1 := Lib.hid hq1
        have HQ2 := Lib.hid hq2
        clear hq1 hq2 hI
        rcases hlo' with hlo | ⟨rfl, rfl⟩
        all_goals
          go_wp2
          go_end0
          exact Gives.mk ⟨rfl, HQ1.out, HQ2.out⟩
end Go.Proofs.Ytaakmkkgnboedaa
