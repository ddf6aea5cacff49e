/- Contract of layer 19: works. (Printed by wip/tools/mk9.py.) -/
import Derived.Test.YtaakmkkgnboedaaU
namespace Go.Proofs.Ytaakmkkgnboedaa
open Go Go.RowKit Go.Kb
def okE (x : En) : Bool := (decide (x.fr.parts.length ≤ 60000) && x.fr.parts.all (fun p => decide (p.rest.length ≤ 60000))) && (decide (0 ≤ x.fr.info.pic) && decide (x.fr.info.pic < 65536))
theorem works_s : ∀ n, n < 4 → (∀ x ∈ (rw_ n).1.es, Small x) ∧ ∀ x ∈ (rw_ n).1.es, 0 ≤ x.fr.info.pic ∧ x.fr.info.pic < 65536 := by
  intro n hn
  have h : (rw_ n).1.es.all okE = true := by
    have : n = 0 ∨ n = 1 ∨ n = 2 ∨ n = 3 := by omega
    rcases this with rfl | rfl | rfl | rfl <;> rfl
  refine ⟨fun x hx => ?_, fun x hx => ?_⟩
  all_goals have := List.all_eq_true.1 h x hx
  all_goals unfold okE at this
  all_goals simp only [Bool.and_eq_true, decide_eq_true_eq, List.all_eq_true] at this
  · exact ⟨this.1.1, this.1.2⟩
  · exact this.2
set_option maxRecDepth 100000 in
set_option maxHeartbeats 3200000 in
theorem c9 (w : World) : Calls Try.prog 9 #[] w fun e w' => e = .returned (.bool true) ∧ Upd No w w' := by
  go_enter Try.func9, Try.ntmps9
  go_wp2
  go_loopw [1] (fun i wr => ∃ k : Nat, k ≤ 4 ∧ i = .int .i64 k ∧ Hid (Upd No w wr)) (fun i _ => 4 - (intOf i).toNat)
  case atStart => exact ⟨0, by omega, rfl, Lib.hid (Upd.refl _ _)⟩
  case round =>
    obtain ⟨k, hk, rfl, hI⟩ := hrel
    rcases (show k = 0 ∨ k = 1 ∨ k = 2 ∨ k = 3 ∨ k = 4 by omega) with rfl | rfl | rfl | rfl | rfl
    · go_wp2_with fail
      refine (c10 2 true (by decide) _).mono ?_
      rintro e w1 ⟨r, rfl, u1, b, rfl, q1⟩
      have V1 := Lib.hid u1
      have Q1 := Lib.hid (show QRep w1 b s0 (fun k => From wr.heap.size k ∧ k < w1.heap.size) from q1.bound)
      clear u1 q1
      go_wp2_with fail
      refine (c33 false 1 1 (by decide) _).mono ?_
      rintro e w2 ⟨r, rfl, u, rfl, p2, u2⟩
      have P2 := Lib.hid p2
      have V2 := Lib.hid u2
      clear p2 u2
      go_wp2_with (refine wpList_at (.buildSlice 73 1 #[(0, .tmp 19)]) rfl ?_; refine wpList_build1 rfl (.tmp 19) rfl (madeE false 1 1) u rfl ?_)
      refine (c22 _ b s0 _ _ [madeE false 1 1] _ (Q1.out.keep (V2.out.alloc _) (fun _ _ _ f => f)) (REns.one1 (x := madeE false 1 1) P2.out.r) (fun k _ hk h => by have h1 := h.2; rcases hk with hk | hk; exact absurd h1 (Nat.not_lt.2 hk); exact absurd (hk ▸ h1) (Nat.not_lt.2 V2.out.size)) (show _ ≤ 60000 by decide) (small1 _ _ _)).mono ?_
      rintro e w3 ⟨r, rfl, rfl, q3, u3⟩
      rw [show (putsL s0 [madeE false 1 1]).2 = 0 from rfl]
      have Q3 := Lib.hid (show QRep w3 b (s2w 0) _ from q3.bound)
      have V3 := Lib.hid u3
      clear q3 u3
      generalize Value.agg _ = z1
      go_wp2_with fail
      refine (c33 false 2 1 (by decide) _).mono ?_
      rintro e w5 ⟨r, rfl, u5, rfl, p5, y5⟩
      have P5 := Lib.hid p5
      have V5 := Lib.hid y5
      clear p5 y5
      go_wp2_with fail
      refine (c33 false 3 1 (by decide) _).mono ?_
      rintro e w6 ⟨r, rfl, u6, rfl, p6, y6⟩
      have P6 := Lib.hid p6
      have V6 := Lib.hid y6
      clear p6 y6
      go_wp2_with (refine wpList_at (.buildSlice 73 2 #[(0, .tmp 37), (1, .tmp 38)]) rfl ?_; refine wpList_build2 rfl (.tmp 37) (.tmp 38) rfl (madeE false 2 1) (madeE false 3 1) u5 u6 rfl rfl ?_)
      refine (c22 _ b (s2w 0) _ _ [madeE false 2 1, madeE false 3 1] _ (Q3.out.keep ((V5.out.then0 V6.out).alloc _) (fun _ _ _ f => f)) (REns.two (x := madeE false 2 1) (y := madeE false 3 1) (P5.out.r.keep V6.out (fun _ _ _ f => f)) (P6.out.r.mono (fun k _ hk => Nat.le_trans V5.out.size hk))) (fun k _ hk h => by have h1 := h.2; rcases hk with hk | hk; exact absurd h1 (Nat.not_lt.2 hk); exact absurd (hk ▸ h1) (Nat.not_lt.2 (Nat.le_trans V5.out.size V6.out.size))) (show _ ≤ 60000 by decide) (small2 _ _ _ _ _ _)).mono ?_
      rintro e w7 ⟨r, rfl, rfl, q7, u7⟩
      rw [show (putsL (s2w 0) [madeE false 2 1, madeE false 3 1]).2 = 1 from rfl]
      have Q7 := Lib.hid (show QRep w7 b (rw_ 0).1 _ from q7.bound)
      have V7 := Lib.hid u7
      clear q7 u7
      generalize Value.agg _ = z2
      go_wp2_with fail
      have UA : Upd No wr w3 := ((V1.out.then0 V2.out).alloc _).trans V3.out (fun k hk h => absurd hk (Nat.not_lt.2 h.1))
      have UB : Upd No wr w7 := (((UA.then0 V5.out).then0 V6.out).alloc _).trans V7.out (fun k hk h => absurd hk (Nat.not_lt.2 (h.1.elim (fun h => h.1) (fun h => Nat.le_trans ((V1.out.then0 V2.out).alloc _).size h))))
      have HUB := Lib.hid UB
      have HW : Hid (RC (((((w7.alloc (.cells #[.int .i64 (-1), .int .i64 2, .int .i64 3] 3)).alloc (.cells #[.int .i64 (-1), .int .i64 2, .int .i64 3] 3)).alloc (.cells #[.int .i64 1, .int .i64 2, .int .i64 (-1)] 3)).alloc (.cells #[.int .i64 1, .int .i64 2, .int .i64 (-1)] 3)).alloc (.cells #[.slice (some ⟨w7.heap.size, 0, none⟩) 3 3, .slice (some ⟨w7.heap.size + 1, 0, none⟩) 3 3, .slice (some ⟨w7.heap.size + 1 + 1, 0, none⟩) 3 3, .slice (some ⟨w7.heap.size + 1 + 1 + 1, 0, none⟩) 3 3] 101)) 1 (.slice (some ⟨w7.heap.size, 0, none⟩) 3 3) 3 (ints (wantw 0)) (From w7.heap.size)) := Lib.hid (((RC.newAt w7 1 (ints (wantw 0)) 3 3 rfl (by decide) (by simp only [World.size_alloc])).mono (F' := From w7.heap.size) (fun k _ hk => by have h : k = w7.heap.size := hk; unfold From; omega)).keep (((((Upd.refl No _).alloc _).alloc _).alloc _).alloc _) (fun _ _ _ f => f))
      clear UA UB
      refine (c47 _ b (rw_ 0).1 _ (Q7.out.keep ((((((Upd.refl No w7).alloc _).alloc _).alloc _).alloc _).alloc _) (fun _ _ _ f => f)) (show _ ≤ 60000 by decide) (works_s 0 (by decide)).1 (works_s 0 (by decide)).2).mono ?_
      rintro e w8 ⟨r, rfl, o8, y8⟩
      have HA : Hid (RC w8 1 r ((rw_ 0).1.es.map waitE).length (ints ((rw_ 0).1.es.map waitE)) _) := Lib.hid (by have h := o8.rc; rw [← List.length_map (f := waitE)] at h; exact h)
      have HB := Lib.hid (RC.keep HW.out y8 (fun _ _ _ f => f))
      have V8 := Lib.hid ((((((HUB.out.alloc _).alloc _).alloc _).alloc _).alloc _).then0 y8)
      clear o8 y8
      go_wp2_with fail
      refine (c46 w8 r _ ((rw_ 0).1.es.map waitE) (wantw 0) _ _ HA.out HB.out (show _ ≤ 60000 by decide)).mono ?_
      rintro e w9 ⟨rfl, y9⟩
      rw [show decide ((rw_ 0).1.es.map waitE = wantw 0) = true from decide_eq_true (works_m 0 (by decide)).2.2.2.2]
      have V9 := Lib.hid (V8.out.then0 y9)
      clear y9
      go_wp2
      exact ⟨⟨0 + 1, by omega, by go_num, Lib.hid (hI.out.then0 V9.out)⟩, by simp [intOf]⟩
    · go_wp2_with fail
      refine (c10 2 true (by decide) _).mono ?_
      rintro e w1 ⟨r, rfl, u1, b, rfl, q1⟩
      have V1 := Lib.hid u1
      have Q1 := Lib.hid (show QRep w1 b s0 (fun k => From wr.heap.size k ∧ k < w1.heap.size) from q1.bound)
      clear u1 q1
      go_wp2_with fail
      refine (c33 false 1 1 (by decide) _).mono ?_
      rintro e w2 ⟨r, rfl, u, rfl, p2, u2⟩
      have P2 := Lib.hid p2
      have V2 := Lib.hid u2
      clear p2 u2
      go_wp2_with (refine wpList_at (.buildSlice 73 1 #[(0, .tmp 19)]) rfl ?_; refine wpList_build1 rfl (.tmp 19) rfl (madeE false 1 1) u rfl ?_)
      refine (c22 _ b s0 _ _ [madeE false 1 1] _ (Q1.out.keep (V2.out.alloc _) (fun _ _ _ f => f)) (REns.one1 (x := madeE false 1 1) P2.out.r) (fun k _ hk h => by have h1 := h.2; rcases hk with hk | hk; exact absurd h1 (Nat.not_lt.2 hk); exact absurd (hk ▸ h1) (Nat.not_lt.2 V2.out.size)) (show _ ≤ 60000 by decide) (small1 _ _ _)).mono ?_
      rintro e w3 ⟨r, rfl, rfl, q3, u3⟩
      rw [show (putsL s0 [madeE false 1 1]).2 = 0 from rfl]
      have Q3 := Lib.hid (show QRep w3 b (s2w 1) _ from q3.bound)
      have V3 := Lib.hid u3
      clear q3 u3
      generalize Value.agg _ = z1
      go_wp2_with fail
      refine (c33 true 2 1 (by decide) _).mono ?_
      rintro e w5 ⟨r, rfl, u5, rfl, p5, y5⟩
      have P5 := Lib.hid p5
      have V5 := Lib.hid y5
      clear p5 y5
      go_wp2_with fail
      refine (c33 false 3 1 (by decide) _).mono ?_
      rintro e w6 ⟨r, rfl, u6, rfl, p6, y6⟩
      have P6 := Lib.hid p6
      have V6 := Lib.hid y6
      clear p6 y6
      go_wp2_with (refine wpList_at (.buildSlice 73 2 #[(0, .tmp 37), (1, .tmp 38)]) rfl ?_; refine wpList_build2 rfl (.tmp 37) (.tmp 38) rfl (madeE true 2 1) (madeE false 3 1) u5 u6 rfl rfl ?_)
      refine (c22 _ b (s2w 1) _ _ [madeE true 2 1, madeE false 3 1] _ (Q3.out.keep ((V5.out.then0 V6.out).alloc _) (fun _ _ _ f => f)) (REns.two (x := madeE true 2 1) (y := madeE false 3 1) (P5.out.r.keep V6.out (fun _ _ _ f => f)) (P6.out.r.mono (fun k _ hk => Nat.le_trans V5.out.size hk))) (fun k _ hk h => by have h1 := h.2; rcases hk with hk | hk; exact absurd h1 (Nat.not_lt.2 hk); exact absurd (hk ▸ h1) (Nat.not_lt.2 (Nat.le_trans V5.out.size V6.out.size))) (show _ ≤ 60000 by decide) (small2 _ _ _ _ _ _)).mono ?_
      rintro e w7 ⟨r, rfl, rfl, q7, u7⟩
      rw [show (putsL (s2w 1) [madeE true 2 1, madeE false 3 1]).2 = 1 from rfl]
      have Q7 := Lib.hid (show QRep w7 b (rw_ 1).1 _ from q7.bound)
      have V7 := Lib.hid u7
      clear q7 u7
      generalize Value.agg _ = z2
      go_wp2_with fail
      have UA : Upd No wr w3 := ((V1.out.then0 V2.out).alloc _).trans V3.out (fun k hk h => absurd hk (Nat.not_lt.2 h.1))
      have UB : Upd No wr w7 := (((UA.then0 V5.out).then0 V6.out).alloc _).trans V7.out (fun k hk h => absurd hk (Nat.not_lt.2 (h.1.elim (fun h => h.1) (fun h => Nat.le_trans ((V1.out.then0 V2.out).alloc _).size h))))
      have HUB := Lib.hid UB
      have HW : Hid (RC (((((w7.alloc (.cells #[.int .i64 (-1), .int .i64 2, .int .i64 3] 3)).alloc (.cells #[.int .i64 (-1), .int .i64 2, .int .i64 3] 3)).alloc (.cells #[.int .i64 1, .int .i64 2, .int .i64 (-1)] 3)).alloc (.cells #[.int .i64 1, .int .i64 2, .int .i64 (-1)] 3)).alloc (.cells #[.slice (some ⟨w7.heap.size, 0, none⟩) 3 3, .slice (some ⟨w7.heap.size + 1, 0, none⟩) 3 3, .slice (some ⟨w7.heap.size + 1 + 1, 0, none⟩) 3 3, .slice (some ⟨w7.heap.size + 1 + 1 + 1, 0, none⟩) 3 3] 101)) 1 (.slice (some ⟨w7.heap.size + 1, 0, none⟩) 3 3) 3 (ints (wantw 1)) (From w7.heap.size)) := Lib.hid (((RC.newAt (w7.alloc (.cells #[.int .i64 (-1), .int .i64 2, .int .i64 3] 3)) 1 (ints (wantw 1)) 3 3 rfl (by decide) (by simp only [World.size_alloc])).mono (F' := From w7.heap.size) (fun k _ hk => by have h : k = w7.heap.size + 1 := hk; unfold From; omega)).keep ((((Upd.refl No _).alloc _).alloc _).alloc _) (fun _ _ _ f => f))
      clear UA UB
      refine (c47 _ b (rw_ 1).1 _ (Q7.out.keep ((((((Upd.refl No w7).alloc _).alloc _).alloc _).alloc _).alloc _) (fun _ _ _ f => f)) (show _ ≤ 60000 by decide) (works_s 1 (by decide)).1 (works_s 1 (by decide)).2).mono ?_
      rintro e w8 ⟨r, rfl, o8, y8⟩
      have HA : Hid (RC w8 1 r ((rw_ 1).1.es.map waitE).length (ints ((rw_ 1).1.es.map waitE)) _) := Lib.hid (by have h := o8.rc; rw [← List.length_map (f := waitE)] at h; exact h)
      have HB := Lib.hid (RC.keep HW.out y8 (fun _ _ _ f => f))
      have V8 := Lib.hid ((((((HUB.out.alloc _).alloc _).alloc _).alloc _).alloc _).then0 y8)
      clear o8 y8
      go_wp2_with fail
      refine (c46 w8 r _ ((rw_ 1).1.es.map waitE) (wantw 1) _ _ HA.out HB.out (show _ ≤ 60000 by decide)).mono ?_
      rintro e w9 ⟨rfl, y9⟩
      rw [show decide ((rw_ 1).1.es.map waitE = wantw 1) = true from decide_eq_true (works_m 1 (by decide)).2.2.2.2]
      have V9 := Lib.hid (V8.out.then0 y9)
      clear y9
      go_wp2
      exact ⟨⟨1 + 1, by omega, by go_num, Lib.hid (hI.out.then0 V9.out)⟩, by simp [intOf]⟩
    · go_wp2_with fail
      refine (c10 2 true (by decide) _).mono ?_
      rintro e w1 ⟨r, rfl, u1, b, rfl, q1⟩
      have V1 := Lib.hid u1
      have Q1 := Lib.hid (show QRep w1 b s0 (fun k => From wr.heap.size k ∧ k < w1.heap.size) from q1.bound)
      clear u1 q1
      go_wp2_with fail
      refine (c33 true 1 1 (by decide) _).mono ?_
      rintro e w2 ⟨r, rfl, u, rfl, p2, u2⟩
      have P2 := Lib.hid p2
      have V2 := Lib.hid u2
      clear p2 u2
      go_wp2_with (refine wpList_at (.buildSlice 73 1 #[(0, .tmp 19)]) rfl ?_; refine wpList_build1 rfl (.tmp 19) rfl (madeE true 1 1) u rfl ?_)
      refine (c22 _ b s0 _ _ [madeE true 1 1] _ (Q1.out.keep (V2.out.alloc _) (fun _ _ _ f => f)) (REns.one1 (x := madeE true 1 1) P2.out.r) (fun k _ hk h => by have h1 := h.2; rcases hk with hk | hk; exact absurd h1 (Nat.not_lt.2 hk); exact absurd (hk ▸ h1) (Nat.not_lt.2 V2.out.size)) (show _ ≤ 60000 by decide) (small1 _ _ _)).mono ?_
      rintro e w3 ⟨r, rfl, rfl, q3, u3⟩
      rw [show (putsL s0 [madeE true 1 1]).2 = 0 from rfl]
      have Q3 := Lib.hid (show QRep w3 b (s2w 2) _ from q3.bound)
      have V3 := Lib.hid u3
      clear q3 u3
      generalize Value.agg _ = z1
      go_wp2_with fail
      refine (c33 false 2 1 (by decide) _).mono ?_
      rintro e w5 ⟨r, rfl, u5, rfl, p5, y5⟩
      have P5 := Lib.hid p5
      have V5 := Lib.hid y5
      clear p5 y5
      go_wp2_with fail
      refine (c33 false 3 1 (by decide) _).mono ?_
      rintro e w6 ⟨r, rfl, u6, rfl, p6, y6⟩
      have P6 := Lib.hid p6
      have V6 := Lib.hid y6
      clear p6 y6
      go_wp2_with (refine wpList_at (.buildSlice 73 2 #[(0, .tmp 37), (1, .tmp 38)]) rfl ?_; refine wpList_build2 rfl (.tmp 37) (.tmp 38) rfl (madeE false 2 1) (madeE false 3 1) u5 u6 rfl rfl ?_)
      refine (c22 _ b (s2w 2) _ _ [madeE false 2 1, madeE false 3 1] _ (Q3.out.keep ((V5.out.then0 V6.out).alloc _) (fun _ _ _ f => f)) (REns.two (x := madeE false 2 1) (y := madeE false 3 1) (P5.out.r.keep V6.out (fun _ _ _ f => f)) (P6.out.r.mono (fun k _ hk => Nat.le_trans V5.out.size hk))) (fun k _ hk h => by have h1 := h.2; rcases hk with hk | hk; exact absurd h1 (Nat.not_lt.2 hk); exact absurd (hk ▸ h1) (Nat.not_lt.2 (Nat.le_trans V5.out.size V6.out.size))) (show _ ≤ 60000 by decide) (small2 _ _ _ _ _ _)).mono ?_
      rintro e w7 ⟨r, rfl, rfl, q7, u7⟩
      rw [show (putsL (s2w 2) [madeE false 2 1, madeE false 3 1]).2 = 1 from rfl]
      have Q7 := Lib.hid (show QRep w7 b (rw_ 2).1 _ from q7.bound)
      have V7 := Lib.hid u7
      clear q7 u7
      generalize Value.agg _ = z2
      go_wp2_with fail
      have UA : Upd No wr w3 := ((V1.out.then0 V2.out).alloc _).trans V3.out (fun k hk h => absurd hk (Nat.not_lt.2 h.1))
      have UB : Upd No wr w7 := (((UA.then0 V5.out).then0 V6.out).alloc _).trans V7.out (fun k hk h => absurd hk (Nat.not_lt.2 (h.1.elim (fun h => h.1) (fun h => Nat.le_trans ((V1.out.then0 V2.out).alloc _).size h))))
      have HUB := Lib.hid UB
      have HW : Hid (RC (((((w7.alloc (.cells #[.int .i64 (-1), .int .i64 2, .int .i64 3] 3)).alloc (.cells #[.int .i64 (-1), .int .i64 2, .int .i64 3] 3)).alloc (.cells #[.int .i64 1, .int .i64 2, .int .i64 (-1)] 3)).alloc (.cells #[.int .i64 1, .int .i64 2, .int .i64 (-1)] 3)).alloc (.cells #[.slice (some ⟨w7.heap.size, 0, none⟩) 3 3, .slice (some ⟨w7.heap.size + 1, 0, none⟩) 3 3, .slice (some ⟨w7.heap.size + 1 + 1, 0, none⟩) 3 3, .slice (some ⟨w7.heap.size + 1 + 1 + 1, 0, none⟩) 3 3] 101)) 1 (.slice (some ⟨w7.heap.size + 1 + 1, 0, none⟩) 3 3) 3 (ints (wantw 2)) (From w7.heap.size)) := Lib.hid (((RC.newAt ((w7.alloc (.cells #[.int .i64 (-1), .int .i64 2, .int .i64 3] 3)).alloc (.cells #[.int .i64 (-1), .int .i64 2, .int .i64 3] 3)) 1 (ints (wantw 2)) 3 3 rfl (by decide) (by simp only [World.size_alloc])).mono (F' := From w7.heap.size) (fun k _ hk => by have h : k = w7.heap.size + 1 + 1 := hk; unfold From; omega)).keep (((Upd.refl No _).alloc _).alloc _) (fun _ _ _ f => f))
      clear UA UB
      refine (c47 _ b (rw_ 2).1 _ (Q7.out.keep ((((((Upd.refl No w7).alloc _).alloc _).alloc _).alloc _).alloc _) (fun _ _ _ f => f)) (show _ ≤ 60000 by decide) (works_s 2 (by decide)).1 (works_s 2 (by decide)).2).mono ?_
      rintro e w8 ⟨r, rfl, o8, y8⟩
      have HA : Hid (RC w8 1 r ((rw_ 2).1.es.map waitE).length (ints ((rw_ 2).1.es.map waitE)) _) := Lib.hid (by have h := o8.rc; rw [← List.length_map (f := waitE)] at h; exact h)
      have HB := Lib.hid (RC.keep HW.out y8 (fun _ _ _ f => f))
      have V8 := Lib.hid ((((((HUB.out.alloc _).alloc _).alloc _).alloc _).alloc _).then0 y8)
      clear o8 y8
      go_wp2_with fail
      refine (c46 w8 r _ ((rw_ 2).1.es.map waitE) (wantw 2) _ _ HA.out HB.out (show _ ≤ 60000 by decide)).mono ?_
      rintro e w9 ⟨rfl, y9⟩
      rw [show decide ((rw_ 2).1.es.map waitE = wantw 2) = true from decide_eq_true (works_m 2 (by decide)).2.2.2.2]
      have V9 := Lib.hid (V8.out.then0 y9)
      clear y9
      go_wp2
      exact ⟨⟨2 + 1, by omega, by go_num, Lib.hid (hI.out.then0 V9.out)⟩, by simp [intOf]⟩
    · go_wp2_with fail
      refine (c10 2 true (by decide) _).mono ?_
      rintro e w1 ⟨r, rfl, u1, b, rfl, q1⟩
      have V1 := Lib.hid u1
      have Q1 := Lib.hid (show QRep w1 b s0 (fun k => From wr.heap.size k ∧ k < w1.heap.size) from q1.bound)
      clear u1 q1
      go_wp2_with fail
      refine (c33 false 1 1 (by decide) _).mono ?_
      rintro e w2 ⟨r, rfl, u, rfl, p2, u2⟩
      have P2 := Lib.hid p2
      have V2 := Lib.hid u2
      clear p2 u2
      go_wp2_with (refine wpList_at (.buildSlice 73 1 #[(0, .tmp 19)]) rfl ?_; refine wpList_build1 rfl (.tmp 19) rfl (madeE false 1 1) u rfl ?_)
      refine (c22 _ b s0 _ _ [madeE false 1 1] _ (Q1.out.keep (V2.out.alloc _) (fun _ _ _ f => f)) (REns.one1 (x := madeE false 1 1) P2.out.r) (fun k _ hk h => by have h1 := h.2; rcases hk with hk | hk; exact absurd h1 (Nat.not_lt.2 hk); exact absurd (hk ▸ h1) (Nat.not_lt.2 V2.out.size)) (show _ ≤ 60000 by decide) (small1 _ _ _)).mono ?_
      rintro e w3 ⟨r, rfl, rfl, q3, u3⟩
      rw [show (putsL s0 [madeE false 1 1]).2 = 0 from rfl]
      have Q3 := Lib.hid (show QRep w3 b (s1w 3) _ from q3.bound)
      have V3 := Lib.hid u3
      clear q3 u3
      generalize Value.agg _ = z1
      go_wp2_with fail
      refine (c14 _ b (s1w 3) _ Q3.out (show _ ≤ 60000 by decide) (madeE false 1 1) rfl).mono ?_
      rintro e w4 ⟨r, rfl, rfl, q4, u4⟩
      rw [show freshB (s1w 3) 0 (madeE false 1 1) = true from rfl]
      have Q4 := Lib.hid (show QRep w4 b (s2w 3) _ from (q4.mono (fun k _ h => h.1)).bound)
      have V4 := Lib.hid u4
      clear q4 u4
      go_wp2_with fail
      refine (c33 true 2 1 (by decide) _).mono ?_
      rintro e w5 ⟨r, rfl, u5, rfl, p5, y5⟩
      have P5 := Lib.hid p5
      have V5 := Lib.hid y5
      clear p5 y5
      go_wp2_with fail
      refine (c33 false 3 1 (by decide) _).mono ?_
      rintro e w6 ⟨r, rfl, u6, rfl, p6, y6⟩
      have P6 := Lib.hid p6
      have V6 := Lib.hid y6
      clear p6 y6
      go_wp2_with (refine wpList_at (.buildSlice 73 2 #[(0, .tmp 37), (1, .tmp 38)]) rfl ?_; refine wpList_build2 rfl (.tmp 37) (.tmp 38) rfl (madeE true 2 1) (madeE false 3 1) u5 u6 rfl rfl ?_)
      refine (c22 _ b (s2w 3) _ _ [madeE true 2 1, madeE false 3 1] _ (Q4.out.keep ((V5.out.then0 V6.out).alloc _) (fun _ _ _ f => f)) (REns.two (x := madeE true 2 1) (y := madeE false 3 1) (P5.out.r.keep V6.out (fun _ _ _ f => f)) (P6.out.r.mono (fun k _ hk => Nat.le_trans V5.out.size hk))) (fun k _ hk h => by have h1 := h.2; rcases hk with hk | hk; exact absurd h1 (Nat.not_lt.2 hk); exact absurd (hk ▸ h1) (Nat.not_lt.2 (Nat.le_trans V5.out.size V6.out.size))) (show _ ≤ 60000 by decide) (small2 _ _ _ _ _ _)).mono ?_
      rintro e w7 ⟨r, rfl, rfl, q7, u7⟩
      rw [show (putsL (s2w 3) [madeE true 2 1, madeE false 3 1]).2 = 1 from rfl]
      have Q7 := Lib.hid (show QRep w7 b (rw_ 3).1 _ from q7.bound)
      have V7 := Lib.hid u7
      clear q7 u7
      generalize Value.agg _ = z2
      go_wp2_with fail
      have UA : Upd No wr w4 := (((V1.out.then0 V2.out).alloc _).trans V3.out (fun k hk h => absurd hk (Nat.not_lt.2 h.1))).trans V4.out (fun k hk h => absurd hk (Nat.not_lt.2 (h.1.elim (fun h => h.1) (fun h => Nat.le_trans ((V1.out.then0 V2.out).alloc _).size h))))
      have UB : Upd No wr w7 := (((UA.then0 V5.out).then0 V6.out).alloc _).trans V7.out (fun k hk h => absurd hk (Nat.not_lt.2 (h.1.elim (fun h => h.1) (fun h => Nat.le_trans ((V1.out.then0 V2.out).alloc _).size h))))
      have HUB := Lib.hid UB
      have HW : Hid (RC (((((w7.alloc (.cells #[.int .i64 (-1), .int .i64 2, .int .i64 3] 3)).alloc (.cells #[.int .i64 (-1), .int .i64 2, .int .i64 3] 3)).alloc (.cells #[.int .i64 1, .int .i64 2, .int .i64 (-1)] 3)).alloc (.cells #[.int .i64 1, .int .i64 2, .int .i64 (-1)] 3)).alloc (.cells #[.slice (some ⟨w7.heap.size, 0, none⟩) 3 3, .slice (some ⟨w7.heap.size + 1, 0, none⟩) 3 3, .slice (some ⟨w7.heap.size + 1 + 1, 0, none⟩) 3 3, .slice (some ⟨w7.heap.size + 1 + 1 + 1, 0, none⟩) 3 3] 101)) 1 (.slice (some ⟨w7.heap.size + 1 + 1 + 1, 0, none⟩) 3 3) 3 (ints (wantw 3)) (From w7.heap.size)) := Lib.hid (((RC.newAt (((w7.alloc (.cells #[.int .i64 (-1), .int .i64 2, .int .i64 3] 3)).alloc (.cells #[.int .i64 (-1), .int .i64 2, .int .i64 3] 3)).alloc (.cells #[.int .i64 1, .int .i64 2, .int .i64 (-1)] 3)) 1 (ints (wantw 3)) 3 3 rfl (by decide) (by simp only [World.size_alloc])).mono (F' := From w7.heap.size) (fun k _ hk => by have h : k = w7.heap.size + 1 + 1 + 1 := hk; unfold From; omega)).keep ((Upd.refl No _).alloc _) (fun _ _ _ f => f))
      clear UA UB
      refine (c47 _ b (rw_ 3).1 _ (Q7.out.keep ((((((Upd.refl No w7).alloc _).alloc _).alloc _).alloc _).alloc _) (fun _ _ _ f => f)) (show _ ≤ 60000 by decide) (works_s 3 (by decide)).1 (works_s 3 (by decide)).2).mono ?_
      rintro e w8 ⟨r, rfl, o8, y8⟩
      have HA : Hid (RC w8 1 r ((rw_ 3).1.es.map waitE).length (ints ((rw_ 3).1.es.map waitE)) _) := Lib.hid (by have h := o8.rc; rw [← List.length_map (f := waitE)] at h; exact h)
      have HB := Lib.hid (RC.keep HW.out y8 (fun _ _ _ f => f))
      have V8 := Lib.hid ((((((HUB.out.alloc _).alloc _).alloc _).alloc _).alloc _).then0 y8)
      clear o8 y8
      go_wp2_with fail
      refine (c46 w8 r _ ((rw_ 3).1.es.map waitE) (wantw 3) _ _ HA.out HB.out (show _ ≤ 60000 by decide)).mono ?_
      rintro e w9 ⟨rfl, y9⟩
      rw [show decide ((rw_ 3).1.es.map waitE = wantw 3) = true from decide_eq_true (works_m 3 (by decide)).2.2.2.2]
      have V9 := Lib.hid (V8.out.then0 y9)
      clear y9
      go_wp2
      exact ⟨⟨3 + 1, by omega, by go_num, Lib.hid (hI.out.then0 V9.out)⟩, by simp [intOf]⟩
    · go_wp2
      go_ret
      exact ⟨rfl, hI.out⟩
end Go.Proofs.Ytaakmkkgnboedaa
