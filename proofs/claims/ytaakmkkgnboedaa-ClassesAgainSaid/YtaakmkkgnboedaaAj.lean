/- Contracts of layer 19: packets that are sent again: Put; a row is written over. -/
import Derived.Test.YtaakmkkgnboedaaAi
import Derived.Test.YtaakmkkgnboedaaTail
namespace Go.Proofs.Ytaakmkkgnboedaa
open Go Go.RowKit Go.Kb
set_option linter.unusedVariables false
set_option linter.unusedSimpArgs false
theorem info129 : (Try.prog.info? 129).map (fun i => (i.zero, i.size, i.bytes)) = some (some (.agg #[(.int .u16 0), (.slice none 0 0)]), 2, 32) := by kernel_rfl
def mayPut (s : Ag) (n : Int) : Bool := decide ((s.ps.length : Int) + 1 ≤ s.most) && !s.ps.any (fun p => p.seq == n)
set_option maxRecDepth 100000 in
set_option maxHeartbeats 1600000 in
theorem c42no (w : World) (b : Nat) (s : Ag) (F : Nat → Prop) (n : Int) (v : Value) (h : ARep w b s F) (hf : Fits s.ps.length) (hm : mayPut s n = false) :
    Calls Try.prog 42 #[.pointer (some ⟨b, 0, none⟩), .int .u16 n, v] w fun e w' => e = .returned (.bool false) ∧ Upd No w w' := by
  obtain ⟨hF, pv, hb, hO⟩ := h
  have hmax : s.ps.length ≤ 60000 := hf
  obtain ⟨a0, cap0, rfl⟩ := hO.slice
  have UA := Lib.hid ((Upd.refl No w).alloc (.cells #[.int .u16 n] 36))
  have HO := Lib.hid (hO.keep UA.out (fun _ _ _ f => f))
  have HN := Lib.hid (blk_new w (.cells #[.int .u16 n] 36))
  have HF := Lib.hid hf
  have HB := Lib.hid (blk_alloc hb (.cells #[.int .u16 n] 36))
  clear hO hb hf
  have HM := Lib.hid hm
  clear hm
  have HA : (decide ((s.ps.length : Int) + 1 > s.most) = true) ∨ (decide ((s.ps.length : Int) + 1 > s.most) = false ∧ s.ps.any (fun p => p.seq == n) = true) := by
    have := HM.out
    unfold mayPut at this
    cases ho : decide ((s.ps.length : Int) + 1 > s.most)
    · have h1 : (s.ps.length : Int) + 1 ≤ s.most := by simpa using ho
      exact .inr ⟨rfl, by simpa [h1] using this⟩
    · exact .inl rfl
  rcases HA with ho | ⟨ho, ha⟩
  · skip
    have HH := Lib.hid ho
    clear ho
    go_enter Try.func42, Try.ntmps42
    go_wp2_with fail
    obtain ⟨W, hW⟩ : ∃ W, W = w.alloc (.cells #[.int .u16 n] 36) := ⟨_, rfl⟩
    rw [← hW] at HO HN HB UA
    rw [← hW]
    clear hW
    have hw1 : IntKind.i64.wrap ((s.ps.length : Int) + 1) = (s.ps.length : Int) + 1 := IntWalk.i64_in _ (by omega)
    have hS0 := (Upd.refl No W).drew
    have K0 := Lib.hid (cell_of_blk HB.out 0)
    have K1 := Lib.hid (cell_of_blk HB.out 1)
    refine wp_region_held (S := Upd No W) follows ?_
    refine take_at 0 (by kernel_rfl) (by kernel_rfl) (by kernel_rfl) hS0 ?_
    intro o ho; simp only [List.take_succ_cons, List.take_zero, List.getElem?_toArray, List.getElem?_cons_succ, List.getElem?_cons_zero, Option.some.injEq] at ho; subst ho
    refine take_mk (v := ?_) (fun w' hS => ?_) rfl ?_ ?_; rotate_left
    · (go_simp; (try with_reducible rfl))
    · exact fun _ _ _ h => h
    simp only [Act.put, List.setIfInBounds_toArray, List.set_cons_zero, List.set_cons_succ]
    refine take_at 1 (by kernel_rfl) (by kernel_rfl) (by kernel_rfl) hS0 ?_
    intro o ho; simp only [List.take_succ_cons, List.take_zero, List.getElem?_toArray, List.getElem?_cons_succ, List.getElem?_cons_zero, Option.some.injEq] at ho; subst ho
    refine take_mk (v := ?_) (fun w' hS => ?_) rfl ?_ ?_; rotate_left
    · (go_simp; (try with_reducible rfl))
    · exact fun _ _ _ h => h
    simp only [Act.put, List.setIfInBounds_toArray, List.set_cons_zero, List.set_cons_succ]
    refine take_at 2 (by kernel_rfl) (by kernel_rfl) (by kernel_rfl) hS0 ?_
    intro o ho; simp only [List.take_succ_cons, List.take_zero, List.getElem?_toArray, List.getElem?_cons_succ, List.getElem?_cons_zero, Option.some.injEq] at ho; subst ho
    refine take_mk (v := ?_) (fun w' hS => ?_) rfl ?_ ?_; rotate_left
    · (go_simp; (try with_reducible rfl))
    · exact fun _ _ _ h => h
    simp only [Act.put, List.setIfInBounds_toArray, List.set_cons_zero, List.set_cons_succ]
    refine take_at 3 (by kernel_rfl) (by kernel_rfl) (by kernel_rfl) hS0 ?_
    intro o ho; simp only [List.take_succ_cons, List.take_zero, List.getElem?_toArray, List.getElem?_cons_succ, List.getElem?_cons_zero, Option.some.injEq] at ho; subst ho
    refine take_mk (v := ?_) (fun w' hS => ?_) rfl ?_ ?_; rotate_left
    · (go_simp; (try with_reducible rfl))
    · exact fun _ _ _ h => h
    simp only [Act.put, List.setIfInBounds_toArray, List.set_cons_zero, List.set_cons_succ]
    refine take_at 4 (by kernel_rfl) (by kernel_rfl) (by kernel_rfl) hS0 ?_
    intro o ho; simp only [List.take_succ_cons, List.take_zero, List.getElem?_toArray, List.getElem?_cons_succ, List.getElem?_cons_zero, Option.some.injEq] at ho; subst ho
    refine take_mk (v := ?_) (fun w' hS => ?_) rfl ?_ ?_; rotate_left
    · (go_simp; (try with_reducible rfl))
    · exact fun _ _ _ h => h
    simp only [Act.put, List.setIfInBounds_toArray, List.set_cons_zero, List.set_cons_succ]
    refine take_at 5 (by kernel_rfl) (by kernel_rfl) (by kernel_rfl) hS0 ?_
    intro o ho; simp only [List.take_succ_cons, List.take_zero, List.getElem?_toArray, List.getElem?_cons_succ, List.getElem?_cons_zero, Option.some.injEq] at ho; subst ho
    refine take_mk (v := ?_) (fun w' hS => ?_) rfl ?_ ?_; rotate_left
    · (go_simp; (try with_reducible rfl))
    · exact fun _ _ _ h => h
    simp only [Act.put, List.setIfInBounds_toArray, List.set_cons_zero, List.set_cons_succ]
    refine take_at 6 (by kernel_rfl) (by kernel_rfl) (by kernel_rfl) hS0 ?_
    intro o ho; simp only [List.take_succ_cons, List.take_zero, List.getElem?_toArray, List.getElem?_cons_succ, List.getElem?_cons_zero, Option.some.injEq] at ho; subst ho
    refine take_mk (v := ?_) (fun w' hS => ?_) rfl ?_ ?_; rotate_left
    · (have k0 := hS.cell0 (show W.cell? ⟨b, 0, none⟩ = some (.int .i64 s.most) from K0.out); go_simp; (try with_reducible rfl))
    · exact fun _ _ _ h => h
    simp only [Act.put, List.setIfInBounds_toArray, List.set_cons_zero, List.set_cons_succ]
    refine take_at 7 (by kernel_rfl) (by kernel_rfl) (by kernel_rfl) hS0 ?_
    intro o ho; simp only [List.take_succ_cons, List.take_zero, List.getElem?_toArray, List.getElem?_cons_succ, List.getElem?_cons_zero, Option.some.injEq] at ho; subst ho
    refine take_mk (v := ?_) (fun w' hS => ?_) rfl ?_ ?_; rotate_left
    · (go_simp; (try with_reducible rfl))
    · exact fun _ _ _ h => h
    simp only [Act.put, List.setIfInBounds_toArray, List.set_cons_zero, List.set_cons_succ]
    refine take_at 8 (by kernel_rfl) (by kernel_rfl) (by kernel_rfl) hS0 ?_
    intro o ho; simp only [List.take_succ_cons, List.take_zero, List.getElem?_toArray, List.getElem?_cons_succ, List.getElem?_cons_zero, Option.some.injEq] at ho; subst ho
    refine take_mk (v := ?_) (fun w' hS => ?_) rfl ?_ ?_; rotate_left
    · (go_simp; (try with_reducible rfl))
    · exact fun _ _ _ h => h
    simp only [Act.put, List.setIfInBounds_toArray, List.set_cons_zero, List.set_cons_succ]
    refine take_at 9 (by kernel_rfl) (by kernel_rfl) (by kernel_rfl) hS0 ?_
    intro o ho; simp only [List.take_succ_cons, List.take_zero, List.getElem?_toArray, List.getElem?_cons_succ, List.getElem?_cons_zero, Option.some.injEq] at ho; subst ho
    refine take_mk (v := ?_) (fun w' hS => ?_) rfl ?_ ?_; rotate_left
    · (go_simp; (try with_reducible rfl))
    · exact fun _ _ _ h => h
    simp only [Act.put, List.setIfInBounds_toArray, List.set_cons_zero, List.set_cons_succ]
    refine take_at 10 (by kernel_rfl) (by kernel_rfl) (by kernel_rfl) hS0 ?_
    intro o ho; simp only [List.take_succ_cons, List.take_zero, List.getElem?_toArray, List.getElem?_cons_succ, List.getElem?_cons_zero, Option.some.injEq] at ho; subst ho
    refine take_mk (v := ?_) (fun w' hS => ?_) rfl ?_ ?_; rotate_left
    · (have k1 := hS.cell0 (show W.cell? ⟨b, 1, none⟩ = some (.slice a0 s.ps.length cap0) from K1.out); go_simp; (try with_reducible rfl))
    · exact fun _ _ _ h => h
    simp only [Act.put, List.setIfInBounds_toArray, List.set_cons_zero, List.set_cons_succ]
    refine take_at 11 (by kernel_rfl) (by kernel_rfl) (by kernel_rfl) hS0 ?_
    intro o ho; simp only [List.take_succ_cons, List.take_zero, List.getElem?_toArray, List.getElem?_cons_succ, List.getElem?_cons_zero, Option.some.injEq] at ho; subst ho
    refine take_mk (v := ?_) (fun w' hS => ?_) rfl ?_ ?_; rotate_left
    · (go_simp; (try with_reducible rfl))
    · exact fun _ _ _ h => h
    simp only [Act.put, List.setIfInBounds_toArray, List.set_cons_zero, List.set_cons_succ]
    refine take_at 12 (by kernel_rfl) (by kernel_rfl) (by kernel_rfl) hS0 ?_
    intro o ho; simp only [List.take_succ_cons, List.take_zero, List.getElem?_toArray, List.getElem?_cons_succ, List.getElem?_cons_zero, Option.some.injEq] at ho; subst ho
    refine take_mk (v := ?_) (fun w' hS => ?_) rfl ?_ ?_; rotate_left
    · (go_simp; (try with_reducible rfl))
    · exact fun _ _ _ h => h
    simp only [Act.put, List.setIfInBounds_toArray, List.set_cons_zero, List.set_cons_succ]
    refine do_one 13 (by kernel_rfl) ?_
    intro o ho; simp only [List.take_succ_cons, List.take_zero, List.getElem?_toArray, List.getElem?_cons_succ, List.getElem?_cons_zero, Option.some.injEq] at ho; subst ho; intro K hK; refine if_take (by rfl) ?_
    go_simp
    refine (c62 _ _ _).mono ?_
    rintro e w1 ⟨he, u1⟩
    rw [HH.out] at he
    subst he
    have hS1 := hS0.then0 u1
    clear hS0 u1
    go_wp2_with fail
    refine hK _ _ hS1 ?_
    clear hK K
    try simp only [Act.put, List.setIfInBounds_toArray, List.set_cons_zero, List.set_cons_succ]
    refine take_at 14 (by kernel_rfl) (by kernel_rfl) (by kernel_rfl) hS1 ?_
    intro o ho; simp only [List.take_succ_cons, List.take_zero, List.getElem?_toArray, List.getElem?_cons_succ, List.getElem?_cons_zero, Option.some.injEq] at ho; subst ho
    refine take_mk (v := ?_) (fun w' hS => ?_) rfl ?_ ?_; rotate_left
    · (go_simp; (try with_reducible rfl))
    · exact fun _ _ _ h => h
    simp only [Act.put, List.setIfInBounds_toArray, List.set_cons_zero, List.set_cons_succ]
    refine take_at 15 (by kernel_rfl) (by kernel_rfl) (by kernel_rfl) hS1 ?_
    intro o ho; simp only [List.take_succ_cons, List.take_zero, List.getElem?_toArray, List.getElem?_cons_succ, List.getElem?_cons_zero, Option.some.injEq] at ho; subst ho
    refine take_mk (v := ?_) (fun w' hS => ?_) rfl ?_ ?_; rotate_left
    · (go_simp; (try with_reducible rfl))
    · exact fun _ _ _ h => h
    simp only [Act.put, List.setIfInBounds_toArray, List.set_cons_zero, List.set_cons_succ]
    refine take_at 16 (by kernel_rfl) (by kernel_rfl) (by kernel_rfl) hS1 ?_
    intro o ho; simp only [List.take_succ_cons, List.take_zero, List.getElem?_toArray, List.getElem?_cons_succ, List.getElem?_cons_zero, Option.some.injEq] at ho; subst ho
    refine ⟨undef, .inr ⟨rfl, rfl⟩, fun _ _ _ h => h, ?_⟩
    simp only [Act.put, List.setIfInBounds_toArray, List.set_cons_zero, List.set_cons_succ]
    refine take_at 17 (by kernel_rfl) (by kernel_rfl) (by kernel_rfl) hS1 ?_
    intro o ho; simp only [List.take_succ_cons, List.take_zero, List.getElem?_toArray, List.getElem?_cons_succ, List.getElem?_cons_zero, Option.some.injEq] at ho; subst ho
    refine ⟨undef, .inr ⟨rfl, rfl⟩, fun _ _ _ h => h, ?_⟩
    simp only [Act.put, List.setIfInBounds_toArray, List.set_cons_zero, List.set_cons_succ]
    refine take_at 18 (by kernel_rfl) (by kernel_rfl) (by kernel_rfl) hS1 ?_
    intro o ho; simp only [List.take_succ_cons, List.take_zero, List.getElem?_toArray, List.getElem?_cons_succ, List.getElem?_cons_zero, Option.some.injEq] at ho; subst ho
    refine ⟨undef, .inr ⟨rfl, rfl⟩, fun _ _ _ h => h, ?_⟩
    simp only [Act.put, List.setIfInBounds_toArray, List.set_cons_zero, List.set_cons_succ]
    refine take_at 19 (by kernel_rfl) (by kernel_rfl) (by kernel_rfl) hS1 ?_
    intro o ho; simp only [List.take_succ_cons, List.take_zero, List.getElem?_toArray, List.getElem?_cons_succ, List.getElem?_cons_zero, Option.some.injEq] at ho; subst ho
    refine ⟨undef, .inr ⟨rfl, rfl⟩, fun _ _ _ h => h, ?_⟩
    simp only [Act.put, List.setIfInBounds_toArray, List.set_cons_zero, List.set_cons_succ]
    refine take_at 20 (by kernel_rfl) (by kernel_rfl) (by kernel_rfl) hS1 ?_
    intro o ho; simp only [List.take_succ_cons, List.take_zero, List.getElem?_toArray, List.getElem?_cons_succ, List.getElem?_cons_zero, Option.some.injEq] at ho; subst ho
    refine ⟨undef, .inr ⟨rfl, rfl⟩, fun _ _ _ h => h, ?_⟩
    simp only [Act.put, List.setIfInBounds_toArray, List.set_cons_zero, List.set_cons_succ]
    refine take_at 21 (by kernel_rfl) (by kernel_rfl) (by kernel_rfl) hS1 ?_
    intro o ho; simp only [List.take_succ_cons, List.take_zero, List.getElem?_toArray, List.getElem?_cons_succ, List.getElem?_cons_zero, Option.some.injEq] at ho; subst ho
    refine ⟨undef, .inr ⟨rfl, rfl⟩, fun _ _ _ h => h, ?_⟩
    simp only [Act.put, List.setIfInBounds_toArray, List.set_cons_zero, List.set_cons_succ]
    refine take_at 22 (by kernel_rfl) (by kernel_rfl) (by kernel_rfl) hS1 ?_
    intro o ho; simp only [List.take_succ_cons, List.take_zero, List.getElem?_toArray, List.getElem?_cons_succ, List.getElem?_cons_zero, Option.some.injEq] at ho; subst ho
    refine take_mk (v := ?_) (fun w' hS => ?_) rfl ?_ ?_; rotate_left
    · (go_simp; (try with_reducible rfl))
    · exact fun _ _ _ h => h
    simp only [Act.put, List.setIfInBounds_toArray, List.set_cons_zero, List.set_cons_succ]
    refine wpAnyH_done (by kernel_rfl) ?_ _
    go_wp2
    go_ret
    exact ⟨rfl, UA.out.then0 hS1⟩
  · skip
    have HH := Lib.hid ho
    clear ho
    go_enter Try.func42, Try.ntmps42
    go_wp2_with fail
    obtain ⟨W, hW⟩ : ∃ W, W = w.alloc (.cells #[.int .u16 n] 36) := ⟨_, rfl⟩
    rw [← hW] at HO HN HB UA
    rw [← hW]
    clear hW
    have hw1 : IntKind.i64.wrap ((s.ps.length : Int) + 1) = (s.ps.length : Int) + 1 := IntWalk.i64_in _ (by omega)
    have UW := Lib.hid ((Upd.refl No W).drew)
    have k0 := cell_of_blk HB.out 0
    have k1 := cell_of_blk HB.out 1
    go_region_held3 (fun w' => Hid (Upd No W w') ∧ w'.cell? ⟨b, 0, none⟩ = some (.int .i64 s.most) ∧ w'.cell? ⟨b, 1, none⟩ = some (.slice a0 s.ps.length cap0))
      (first | exact ⟨‹_›, ‹_›, ‹_›⟩ | go_keep)
      (first
        | (go_at_call 62; refine (c62 _ _ _).mono ?_; rintro e w1 ⟨he, u1⟩; rw [HH.out] at he; subst he; have hS := ‹Hid (Upd No W _) ∧ _›; have U1 := Lib.hid (hS.1.out.then0 u1); have j0 := u1.cell0 hS.2.1; have j1 := u1.cell0 hS.2.2; clear u1 hS)
        | (go_at_call 63; have hS := ‹Hid (Upd No W _) ∧ _›; refine (c63 _ _ _ _ n _ (HO.out.keep hS.1.out (fun _ _ _ f => f)) HF.out (hS.1.out.blk HN.out (fun f => f))).mono ?_; rintro e w2 ⟨he, u2⟩; rw [ha] at he; subst he; have U2 := Lib.hid (hS.1.out.then0 u2); have l0 := u2.cell0 hS.2.1; have l1 := u2.cell0 hS.2.2; clear u2 hS))
    go_wp2
    go_ret
    exact ⟨rfl, UA.out.then0 U2.out⟩
end Go.Proofs.Ytaakmkkgnboedaa
