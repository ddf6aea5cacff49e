/- Contract of layer 19: Put. (Printed by wip/tools/mk22.py.) -/
import Derived.Test.YtaakmkkgnboedaaJ
namespace Go.Proofs.Ytaakmkkgnboedaa
open Go Go.RowKit Go.Kb

def putsL (s : Q) (l : List En) : Q × Int := l.foldl (fun p x => ((putL p.1 x).1, p.2 + (putL p.1 x).2)) (s, 0)
theorem putsL_snoc (s : Q) (l : List En) (x : En) : putsL s (l ++ [x]) = ((putL (putsL s l).1 x).1, (putsL s l).2 + (putL (putsL s l).1 x).2) := by
  unfold putsL
  rw [List.foldl_append]
  rfl
theorem putL_n (s : Q) (x : En) : 0 ≤ (putL s x).2 ∧ (putL s x).2 ≤ 1 := by
  unfold putL
  dsimp only
  split
  · split
    · split <;> simp
    · simp
  · simp
theorem putL_le (s : Q) (x : En) : (putL s x).1.es.length ≤ s.es.length + 1 := by
  have h1 : (pushL s x).es.length ≤ s.es.length + 1 := by
    have := settleL_le (s.es ++ [x]) s.es.length
    rw [List.length_append] at this
    exact this
  unfold putL
  dsimp only
  split
  · split
    · split
      · exact h1
      · exact Nat.le_trans (settleL_le _ _) (by rw [List.length_set]; exact h1)
    · exact h1
  · exact h1
theorem putsL_f : ∀ (l : List En) (q : Q) (n : Int), n ≤ (l.foldl (fun p x => ((putL p.1 x).1, p.2 + (putL p.1 x).2)) (q, n)).2 ∧ (l.foldl (fun p x => ((putL p.1 x).1, p.2 + (putL p.1 x).2)) (q, n)).2 ≤ n + l.length ∧ (l.foldl (fun p x => ((putL p.1 x).1, p.2 + (putL p.1 x).2)) (q, n)).1.es.length ≤ q.es.length + l.length
  | [], q, n => ⟨Int.le_refl _, by simp, Nat.le_refl _⟩
  | x :: l, q, n => by
    have h1 := putL_n q x
    have h2 := putL_le q x
    have h3 := putsL_f l (putL q x).1 (n + (putL q x).2)
    simp only [List.foldl_cons, List.length_cons]
    omega
theorem putsL_n (s : Q) (l : List En) : 0 ≤ (putsL s l).2 ∧ (putsL s l).2 ≤ l.length ∧ (putsL s l).1.es.length ≤ s.es.length + l.length := by
  have := putsL_f l s 0
  unfold putsL
  omega
def I22 (w : World) (b : Nat) (s : Q) (F : Nat → Prop) (l : List En) (wr : World) : Prop := QRep wr b (putsL s l).1 (fun k => F k ∨ w.heap.size ≤ k) ∧ Upd F w wr
theorem _root_.Go.Kb.REns.bound {w : World} {v : Value} {l : List En} {F : Nat → Prop} (h : REns w v l F) : REns w v l (fun k => F k ∧ k < w.heap.size) := h.mono (fun k hk hF => ⟨hF, hk⟩)
set_option maxRecDepth 100000 in
set_option maxHeartbeats 800000 in
theorem c22 (w : World) (b : Nat) (s : Q) (F G : Nat → Prop) (l : List En) (v : Value) (h : QRep w b s F) (hl : REns w v l G) (hd : ∀ k, k < w.heap.size → G k → ¬ F k) (hf : Fits (s.es.length + l.length)) (hsm : ∀ x ∈ l, Small x) :
    Calls Try.prog 22 #[.pointer (some ⟨b, 0, none⟩), v] w (Gives fun r w' => r = .int .i64 (putsL s l).2 ∧ QRep w' b (putsL s l).1 (fun k => F k ∨ w.heap.size ≤ k) ∧ Upd F w w') := by
  have hmax : s.es.length + l.length ≤ 60000 := hf
  obtain ⟨a0, cap0, rfl⟩ := hl.slice
  have HQ := Lib.hid h
  have HL := Lib.hid hl.bound
  have HS := Lib.hid hsm
  have HD := Lib.hid hd
  clear hf h hsm hl hd
  go_enter Try.func22, Try.ntmps22
  go_wp2
  go_loopw [4, 11] (fun n i wr => ∃ k : Nat, k ≤ l.length ∧ i = .int .i64 k ∧ n = .int .i64 (putsL s (l.take k)).2 ∧ Hid (I22 w b s F (l.take k) wr)) (fun _ i _ => l.length - (intOf i).toNat)
  case atStart => exact ⟨0, Nat.zero_le _, rfl, rfl, Lib.hid ⟨HQ.out.mono (fun _ _ h => .inl h), Upd.refl _ _⟩⟩
  case round =>
    obtain ⟨k, hk, rfl, rfl, hI⟩ := hrel
    by_cases hlt : k < l.length
    · obtain ⟨x, hx⟩ : ∃ x, l[k]? = some x := ⟨_, List.getElem?_eq_getElem hlt⟩
      obtain ⟨g, off, cap, pv, he, hp, hc⟩ := (HL.out.keep hI.out.2 (fun k hk h => HD.out k hk h.1)).at hx
      injection he with he _ he3
      subst he; subst he3
      have hlt' : (k : Int) < l.length := by omega
      have HC := Lib.hid hc
      have H1 := Lib.hid hp.one
      have HX := Lib.hid (HS.out x (List.mem_of_getElem? hx))
      have HP := Lib.hid hp
      have HT : Hid (l.take (k + 1) = l.take k ++ [x]) := Lib.hid (by rw [List.take_add_one, hx]; rfl)
      have hn := putsL_n s (l.take k)
      have hn1 := putL_n (putsL s (l.take k)).1 x
      rw [List.length_take, Nat.min_eq_left hk] at hn
      obtain ⟨n1, n2, n3⟩ := hn
      obtain ⟨m1, m2⟩ := hn1
      clear hc hp hx
      go_wp2_with (first
          | (refine wpList_at (.load 45 (.tmp 13)) rfl ?_; refine wpList_load_agg rfl 45 (.tmp 13) rfl g (off + k * 17) rfl (x.c pv) _ Try.underlying45 rfl (by kernel_rfl) HC.out ?_)
          | (refine wpList_at (.store 45 (.tmp 6) (.tmp 14)) rfl ?_; refine wpList_store_agg rfl 45 (.tmp 6) (.tmp 14) rfl wr.heap.size 0 rfl (x.c pv) rfl (by kernel_rfl) (blk_new _ _) (Nat.le_refl 17) H1.out ?_; obtain ⟨g0, gU⟩ := rng_copy wr zE 45 (x.c pv) rfl; revert g0 gU; generalize World.setCells _ wr.heap.size 0 (x.c pv) = W2; intro g0 gU; have GU := Lib.hid gU; clear gU; have G0 := Lib.hid g0; clear g0)
          | (refine wpList_at (.load 45 (.tmp 6)) rfl ?_; refine wpList_load_agg rfl 45 (.tmp 6) rfl wr.heap.size 0 rfl (x.c pv) _ Try.underlying45 rfl (by kernel_rfl) (all_cells G0.out) ?_)
          | (go_at_call 57; refine (c57 _ b _ _ _ x pv (hI.out.1.keep GU.out (fun _ _ _ f => f)) (show _ ≤ 60000 by omega) (HP.out.keep GU.out (fun _ _ _ f => f)) HX.out).mono ?_; rintro e w3 ⟨r, rfl, rfl, hq, hu⟩; have HQ3 := Lib.hid hq; have HU3 := Lib.hid hu; clear hq hu))
      exact ⟨⟨k + 1, by omega, by go_num, by rw [HT.out, putsL_snoc], Lib.hid ⟨by rw [HT.out, putsL_snoc]; exact HQ3.out.mono (fun q _ hq => hq.elim id (fun h => .inr (Nat.le_trans (Nat.le_trans hI.out.2.size GU.out.size) h))), (hI.out.2.then0 GU.out).trans HU3.out (fun q hq h => h.resolve_right (by omega))⟩⟩, by simp [intOf]; omega⟩
    · obtain rfl : k = l.length := by omega
      go_wp2
      go_ret
      rw [List.take_length] at hI ⊢
      exact Gives.mk ⟨rfl, hI.out.1, hI.out.2⟩
end Go.Proofs.Ytaakmkkgnboedaa
