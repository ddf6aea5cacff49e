/- Contract of layer 19: slices.Delete of one entry. (Its walk is printed by wip/tools/c78.py.) -/
import Derived.Test.YtaakmkkgnboedaaC
import Derived.Test.YtaakmkkgnboedaaTail
namespace Go.Proofs.Ytaakmkkgnboedaa
open Go Go.RowKit Go.Kb
theorem follows : Try.prog.follows .mixedOrders = true := by kernel_rfl
theorem info45z : (Try.prog.info? 45).map (fun i => i.zero) = some (some (.agg #[(.int .u64 0), (.int .i64 0), (.bool false), (.bool false), (.int .u8 0), (.bool false), (.int .u8 0), (.int .u32 0), (.bool false), (.int .u16 0), (.bool false), (.int .u8 0), (.int .u8 0), (.bool false), (.bool false), (.bool false), (.slice none 0 0)])) := by kernel_rfl
theorem info45 : (Try.prog.info? 45).map (fun i => (i.zero, i.size, i.bytes)) = some (some (.agg #[(.int .u64 0), (.int .i64 0), (.bool false), (.bool false), (.int .u8 0), (.bool false), (.int .u8 0), (.int .u32 0), (.bool false), (.int .u16 0), (.bool false), (.int .u8 0), (.int .u8 0), (.bool false), (.bool false), (.bool false), (.slice none 0 0)]), 17, 72) := by kernel_rfl
theorem del_done {w w1 w2 : World} {g off cap n i : Nat} {cs : List Value} {F F' : Nat → Prop} {cur1 : Array Value} (h0 : cs.length = n * 17) (hi : i < n) (hcap : n ≤ cap) (hF : F g) (ho : OC w1 45 17 (.slice (some ⟨g, off, none⟩) (n - 1) cap) (n - 1) (cs.take (i * 17) ++ cs.drop ((i + 1) * 17)) F')
    (hb1 : w1.heap[g]? = some (.cells cur1 45 (0, 0))) (hu : Upd F w.drew w1) (hu2 : Upd (Only g) w1 w2) (hcl : ∃ cur', w2.heap[g]? = some (.cells cur' 45 (0, 0)) ∧ cur'.size = cur1.size ∧ ∀ k, k < off + (n - 1) * 17 → cur'[k]? = cur1[k]?) :
    Gives (fun r w' => OC w' 45 17 r (n - 1) (cs.take (i * 17) ++ cs.drop ((i + 1) * 17)) F ∧ Upd F w w') (.returned (.slice (some ⟨g, off, none⟩) (n - 1) cap)) w2 := by
  obtain ⟨cur2, hb2, hs2, hc2⟩ := hcl
  obtain ⟨hl, hm, ⟨a, e, _⟩ | ⟨g', off', cap', cur', e, hn', hb', hs', _, hc'⟩⟩ := ho
  · injection e with _ _ e; omega
  · cases e
    obtain rfl : cur1 = cur' := by rw [hb1] at hb'; cases hb'; rfl
    refine Gives.mk ⟨⟨hl, hm, .inr ⟨g, off, cap, cur2, rfl, hn', hb2, by omega, hF, fun j u hj => ?_⟩⟩, ((Upd.refl F w).drew.same (hu.mono fun k _ hk => hk)).trans hu2 (fun k _ e => by cases e; exact hF)⟩
    have hjl := (List.getElem?_eq_some_iff.1 hj).1
    rw [hc2 _ (by omega)]
    exact hc' j u hj
set_option linter.unusedSimpArgs false in
set_option maxRecDepth 100000 in
set_option maxHeartbeats 400000 in
theorem c78 (w : World) (v : Value) (n : Nat) (cs : List Value) (F : Nat → Prop) (h : OC w 45 17 v n cs F) (h1 : ∀ u ∈ cs, u.oneCell' = true) (hf : Fits n) (i : Nat) (hi : i < n) :
    Calls Try.prog 78 #[v, .int .i64 i, .int .i64 ((i : Int) + 1)] w (Gives fun r w' => OC w' 45 17 r (n - 1) (cs.take (i * 17) ++ cs.drop ((i + 1) * 17)) F ∧ Upd F w w') := by
  obtain ⟨g, off, cap, cur, rfl, hcap, hb, hs, hF, hc⟩ := h.at (by omega)
  have hmax : n ≤ 60000 := hf
  have hA := h.cut i (by omega) hcap (by omega)
  have h0 := h.1
  have hR := Lib.hid h
  have H1 := Lib.hid h1
  clear h h1 hc
  have hi1 : i ≤ cap := by omega
  have hi2 : i + 1 ≤ n := hi
  have hi3 : (i : Int) + 1 ≤ n := by omega
  have hi4 : ((i : Int) + 1).toNat = i + 1 := by omega
  have hi5 : (0 : Int) ≤ (i : Int) + 1 := by omega
  have hi6 : (i : Int) + 1 ≤ cap := by omega
  by_cases hq : cap = i + 1
  · subst hq
    obtain rfl : n = i + 1 := by omega
    have hii : i + 1 - i = 1 := by omega
    have hi7 : (i : Int) ≤ (i : Int) + 1 := by omega
    have hi8 : i ≤ i + 1 := by omega
    have hR0 : Hid (RC w 17 (.slice (some ⟨g, off, none⟩) 0 0) 0 (List.drop ((i + 1) * 17) cs) F) := by
      have := hR.out.rc.cutR (i + 1) (by omega) (by omega) 0 (by omega) off (fun h => absurd h (by omega))
      rwa [Nat.sub_self] at this
    go_enter Try.func78, Try.ntmps78
    go_wp2_with fail
    refine wp_region_head 6 (S := fun _ => True) (by kernel_rfl) follows ?_
    refine take_at 0 (by kernel_rfl) (by kernel_rfl) (by kernel_rfl) trivial ?_
    intro o ho; simp only [List.take_succ_cons, List.take_zero, List.getElem?_toArray, List.getElem?_cons_succ, List.getElem?_cons_zero, Option.some.injEq] at ho; subst ho
    refine take_mk (v := ?_) (fun w' hS => ?_) rfl ?_ ?_; rotate_left
    · (go_simp; (try with_reducible rfl))
    · exact fun _ _ _ h => h
    simp only [Act.put, List.setIfInBounds_toArray, List.set_cons_zero, List.set_cons_succ]
    refine take_at 1 (by kernel_rfl) (by kernel_rfl) (by kernel_rfl) trivial ?_
    intro o ho; simp only [List.take_succ_cons, List.take_zero, List.getElem?_toArray, List.getElem?_cons_succ, List.getElem?_cons_zero, Option.some.injEq] at ho; subst ho
    refine take_mk (v := ?_) (fun w' hS => ?_) rfl ?_ ?_; rotate_left
    · (go_simp; (try with_reducible rfl))
    · exact fun _ _ _ h => h
    simp only [Act.put, List.setIfInBounds_toArray, List.set_cons_zero, List.set_cons_succ]
    refine take_at 2 (by kernel_rfl) (by kernel_rfl) (by kernel_rfl) trivial ?_
    intro o ho; simp only [List.take_succ_cons, List.take_zero, List.getElem?_toArray, List.getElem?_cons_succ, List.getElem?_cons_zero, Option.some.injEq] at ho; subst ho
    refine take_mk (v := ?_) (fun w' hS => ?_) rfl ?_ ?_; rotate_left
    · (go_simp; (try with_reducible rfl))
    · exact fun _ _ _ h => h
    simp only [Act.put, List.setIfInBounds_toArray, List.set_cons_zero, List.set_cons_succ]
    refine take_at 3 (by kernel_rfl) (by kernel_rfl) (by kernel_rfl) trivial ?_
    intro o ho; simp only [List.take_succ_cons, List.take_zero, List.getElem?_toArray, List.getElem?_cons_succ, List.getElem?_cons_zero, Option.some.injEq] at ho; subst ho
    refine take_mk (v := ?_) (fun w' hS => ?_) rfl ?_ ?_; rotate_left
    · (go_simp; (try with_reducible rfl))
    · exact fun _ _ _ h => h
    simp only [Act.put, List.setIfInBounds_toArray, List.set_cons_zero, List.set_cons_succ]
    refine take_at 4 (by kernel_rfl) (by kernel_rfl) (by kernel_rfl) trivial ?_
    intro o ho; simp only [List.take_succ_cons, List.take_zero, List.getElem?_toArray, List.getElem?_cons_succ, List.getElem?_cons_zero, Option.some.injEq] at ho; subst ho
    refine take_mk (v := ?_) (fun w' hS => ?_) rfl ?_ ?_; rotate_left
    · (go_simp; (try with_reducible rfl))
    · exact fun _ _ _ h => h
    simp only [Act.put, List.setIfInBounds_toArray, List.set_cons_zero, List.set_cons_succ]
    refine take_at 5 (by kernel_rfl) (by kernel_rfl) (by kernel_rfl) trivial ?_
    intro o ho; simp only [List.take_succ_cons, List.take_zero, List.getElem?_toArray, List.getElem?_cons_succ, List.getElem?_cons_zero, Option.some.injEq] at ho; subst ho
    refine take_mk (v := ?_) (fun w' hS => ?_) rfl ?_ ?_; rotate_left
    · (go_simp; (try with_reducible rfl))
    · exact fun _ _ _ h => h
    simp only [Act.put, List.setIfInBounds_toArray, List.set_cons_zero, List.set_cons_succ]
    refine wpAnyH_done (by kernel_rfl) (headQ_normal ?_) _
    simp only [List.drop_succ_cons, List.drop_zero]
    have hn1 : i + 0 = i := rfl
    have HN1 := Lib.hid hn1
    clear hn1
    go_wp2_with (first
      | (refine wpList_at (.call { callee := .builtin .append, args := #[.tmp 22, .tmp 25], argTypes := #[73, 73] }) rfl ?_; refine wpList_append_ocR rfl (.tmp 22) (.tmp 25) 73 rfl Try.underlying73 info45 rfl (by decide) rfl rfl (hA.keep (Upd.refl No _).drew (fun _ _ _ f => f)) (hR0.out.keep (Upd.refl No _).drew (fun _ _ _ f => f)) (fun u hu => H1.out u (List.mem_of_mem_drop hu)) (by rw [HN1.out]; unfold maxLen; omega) (by rw [HN1.out]; omega) ?_; intro v' w1 ho hu hroom; obtain ⟨rfl, hblk⟩ := hroom g off (i + 1) rfl (by omega); obtain ⟨cur1, hb1, hs1⟩ := hblk (by omega); rw [HN1.out] at ho; rw [HN1.out]; have hu := Lib.hid hu; clear hroom hblk)
      | (refine wpList_at (.call { callee := .builtin .clear, args := #[.tmp 31], argTypes := #[73] }) rfl ?_; refine wpList_clear rfl (.tmp 31) 73 45 _ rfl Try.underlying73 info45z g (off + i * 17) (1) (1) rfl hb1 (Nat.le_trans (show (off + i * 17) + (1) * 17 ≤ off + (i + 1) * 17 by omega) hs1) (by decide) ?_; intro w2 hu2 hcl))
    go_ret
    exact del_done h0 hi hcap hF ho hb1 hu.out hu2 hcl
  · have HQ := Lib.hid hq
    go_enter Try.func78, Try.ntmps78
    go_wp2_with fail
    refine wp_region_head 6 (S := fun _ => True) (by kernel_rfl) follows ?_
    refine take_at 0 (by kernel_rfl) (by kernel_rfl) (by kernel_rfl) trivial ?_
    intro o ho; simp only [List.take_succ_cons, List.take_zero, List.getElem?_toArray, List.getElem?_cons_succ, List.getElem?_cons_zero, Option.some.injEq] at ho; subst ho
    refine take_mk (v := ?_) (fun w' hS => ?_) rfl ?_ ?_; rotate_left
    · (go_simp; (try with_reducible rfl))
    · exact fun _ _ _ h => h
    simp only [Act.put, List.setIfInBounds_toArray, List.set_cons_zero, List.set_cons_succ]
    refine take_at 1 (by kernel_rfl) (by kernel_rfl) (by kernel_rfl) trivial ?_
    intro o ho; simp only [List.take_succ_cons, List.take_zero, List.getElem?_toArray, List.getElem?_cons_succ, List.getElem?_cons_zero, Option.some.injEq] at ho; subst ho
    refine take_mk (v := ?_) (fun w' hS => ?_) rfl ?_ ?_; rotate_left
    · (go_simp; (try with_reducible rfl))
    · exact fun _ _ _ h => h
    simp only [Act.put, List.setIfInBounds_toArray, List.set_cons_zero, List.set_cons_succ]
    refine take_at 2 (by kernel_rfl) (by kernel_rfl) (by kernel_rfl) trivial ?_
    intro o ho; simp only [List.take_succ_cons, List.take_zero, List.getElem?_toArray, List.getElem?_cons_succ, List.getElem?_cons_zero, Option.some.injEq] at ho; subst ho
    refine take_mk (v := ?_) (fun w' hS => ?_) rfl ?_ ?_; rotate_left
    · (go_simp; (try with_reducible rfl))
    · exact fun _ _ _ h => h
    simp only [Act.put, List.setIfInBounds_toArray, List.set_cons_zero, List.set_cons_succ]
    refine take_at 3 (by kernel_rfl) (by kernel_rfl) (by kernel_rfl) trivial ?_
    intro o ho; simp only [List.take_succ_cons, List.take_zero, List.getElem?_toArray, List.getElem?_cons_succ, List.getElem?_cons_zero, Option.some.injEq] at ho; subst ho
    refine take_mk (v := ?_) (fun w' hS => ?_) rfl ?_ ?_; rotate_left
    · (go_simp; (try with_reducible rfl))
    · exact fun _ _ _ h => h
    simp only [Act.put, List.setIfInBounds_toArray, List.set_cons_zero, List.set_cons_succ]
    refine take_at 4 (by kernel_rfl) (by kernel_rfl) (by kernel_rfl) trivial ?_
    intro o ho; simp only [List.take_succ_cons, List.take_zero, List.getElem?_toArray, List.getElem?_cons_succ, List.getElem?_cons_zero, Option.some.injEq] at ho; subst ho
    refine take_mk (v := ?_) (fun w' hS => ?_) rfl ?_ ?_; rotate_left
    · (go_simp; (try with_reducible rfl))
    · exact fun _ _ _ h => h
    simp only [Act.put, List.setIfInBounds_toArray, List.set_cons_zero, List.set_cons_succ]
    refine take_at 5 (by kernel_rfl) (by kernel_rfl) (by kernel_rfl) trivial ?_
    intro o ho; simp only [List.take_succ_cons, List.take_zero, List.getElem?_toArray, List.getElem?_cons_succ, List.getElem?_cons_zero, Option.some.injEq] at ho; subst ho
    refine take_mk (v := ?_) (fun w' hS => ?_) rfl ?_ ?_; rotate_left
    · (go_simp; (try with_reducible rfl))
    · exact fun _ _ _ h => h
    simp only [Act.put, List.setIfInBounds_toArray, List.set_cons_zero, List.set_cons_succ]
    refine wpAnyH_done (by kernel_rfl) (headQ_normal ?_) _
    simp only [List.drop_succ_cons, List.drop_zero]
    have hn1 : i + (n - (i + 1)) = n - 1 := by omega
    have HN1 := Lib.hid hn1
    clear hn1
    go_wp2_with (first
      | (refine wpList_at (.call { callee := .builtin .append, args := #[.tmp 22, .tmp 25], argTypes := #[73, 73] }) rfl ?_; refine wpList_append_ocR rfl (.tmp 22) (.tmp 25) 73 rfl Try.underlying73 info45 rfl (by decide) rfl rfl (hA.keep (Upd.refl No _).drew (fun _ _ _ f => f)) ((hR.out.rc.cutR (i + 1) (by omega) (by omega) (cap - (i + 1)) (by omega) (off + (i + 1) * 17) (fun _ => rfl)).keep (Upd.refl No _).drew (fun _ _ _ f => f)) (fun u hu => H1.out u (List.mem_of_mem_drop hu)) (by rw [HN1.out]; unfold maxLen; omega) (by rw [HN1.out]; omega) ?_; intro v' w1 ho hu hroom; obtain ⟨rfl, hblk⟩ := hroom g off cap rfl (by omega); obtain ⟨cur1, hb1, hs1⟩ := hblk (by omega); rw [HN1.out] at ho; rw [HN1.out]; have hu := Lib.hid hu; clear hroom hblk)
      | (refine wpList_at (.call { callee := .builtin .clear, args := #[.tmp 31], argTypes := #[73] }) rfl ?_; refine wpList_clear rfl (.tmp 31) 73 45 _ rfl Try.underlying73 info45z g (off + (n - 1) * 17) (n - (n - 1)) (cap - (n - 1)) rfl hb1 (Nat.le_trans (show (off + (n - 1) * 17) + (n - (n - 1)) * 17 ≤ off + cap * 17 by omega) hs1) (by decide) ?_; intro w2 hu2 hcl))
    go_ret
    exact del_done h0 hi hcap hF ho hb1 hu.out hu2 hcl
end Go.Proofs.Ytaakmkkgnboedaa
