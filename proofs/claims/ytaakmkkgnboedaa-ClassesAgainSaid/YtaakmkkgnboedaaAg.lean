/- Packets that are sent again: data, and contracts of layer 19. -/
import Derived.Test.YtaakmkkgnboedaaJ
import Derived.Test.YtaakmkkgnboedaaP
import Derived.Test.YtaakmkkgnboedaaX
namespace Go.Kb
open Go.RowKit
structure Pk where
  seq : Int
  b : List Int
structure Ag where
  most : Int
  ps : List Pk
def RPk (w : World) (F : Nat → Prop) (p : Pk) (c : List Value) : Prop := ∃ v, c = [.int .u16 p.seq, v] ∧ RBytes w v p.b F
def OPks (w : World) (v : Value) (l : List Pk) (F : Nat → Prop) : Prop := ∃ cs, OC w 129 2 v l.length cs F ∧ Els 2 (RPk w (Off v F)) l cs
def ARep (w : World) (b : Nat) (s : Ag) (F : Nat → Prop) : Prop :=
  F b ∧ ∃ v, w.heap[b]? = some (.cells #[.int .i64 s.most, v] 127 (0, 0)) ∧ OPks w v s.ps (fun k => F k ∧ k ≠ b)
section
variable {w w1 : World} {b : Nat} {s : Ag} {v : Value} {l : List Pk} {F F' S : Nat → Prop}
theorem RPk.keep {p : Pk} {c : List Value} (h : RPk w F p c) (hu : Upd S w w1) (hd : ∀ k, k < w.heap.size → F k → ¬ S k) : RPk w1 F p c := by obtain ⟨v, e, h⟩ := h; exact ⟨v, e, h.keep hu hd⟩
theorem RPk.mono {p : Pk} {c : List Value} (h : RPk w F p c) (hf : ∀ k, k < w.heap.size → F k → F' k) : RPk w F' p c := by obtain ⟨v, e, h⟩ := h; exact ⟨v, e, h.mono hf⟩
theorem RPk.one {p : Pk} {c : List Value} (h : RPk w F p c) : ∀ u ∈ c, u.oneCell' = true := by
  obtain ⟨v, rfl, h⟩ := h
  obtain ⟨a, cap, rfl⟩ := h.slice
  intro u hu
  simp at hu
  rcases hu with rfl | rfl <;> rfl
theorem OPks.keep (h : OPks w v l F) (hu : Upd S w w1) (hd : ∀ k, k < w.heap.size → F k → ¬ S k) : OPks w1 v l F := by
  obtain ⟨cs, h1, h2⟩ := h
  exact ⟨cs, h1.keep hu hd, h2.imp fun _ _ h => h.keep hu (fun k hk hf => hd k hk hf.1)⟩
theorem OPks.mono (h : OPks w v l F) (hf : ∀ k, k < w.heap.size → F k → F' k) : OPks w v l F' := by
  obtain ⟨cs, h1, h2⟩ := h
  exact ⟨cs, h1.mono hf, h2.imp fun _ _ h => h.mono (fun k hk h => ⟨hf k hk h.1, h.2⟩)⟩
theorem OPks.slice (h : OPks w v l F) : ∃ a cap, v = .slice a l.length cap := by obtain ⟨cs, h, _⟩ := h; obtain ⟨a, cap, e, _⟩ := h.slice; exact ⟨a, cap, e⟩
theorem OPks.bound (h : OPks w v l F) : OPks w v l (fun k => F k ∧ k < w.heap.size) := h.mono (fun k hk hF => ⟨hF, hk⟩)
theorem OPks.at (h : OPks w v l F) {i : Nat} {x : Pk} (hi : l[i]? = some x) :
    ∃ g off cap pv cur, v = .slice (some ⟨g, off, none⟩) l.length cap ∧ l.length ≤ cap ∧ w.heap[g]? = some (.cells cur 129 (0, 0)) ∧ off + cap * 2 ≤ cur.size ∧ F g ∧ RBytes w pv x.b (Off v F) ∧ ∀ j u, ([.int .u16 x.seq, pv] : List Value)[j]? = some u → w.cell? ⟨g, off + i * 2 + j, none⟩ = some u := by
  obtain ⟨cs, hO, hE⟩ := h
  have hlt := (List.getElem?_eq_some_iff.1 hi).1
  obtain ⟨g, off, cap, cur, hv, hn, hb, hs, hF, hc⟩ := hO.at (by omega)
  obtain ⟨c, hcl, ⟨pv, rfl, hp⟩, hat⟩ := hE.at i x hi
  exact ⟨g, off, cap, pv, cur, hv, hn, hb, hs, hF, hp, fun j u hj => by rw [cell_of_blk hb, Nat.add_assoc]; exact hc _ _ (hat j u hj)⟩
theorem ARep.keep (h : ARep w b s F) (hu : Upd S w w1) (hd : ∀ k, k < w.heap.size → F k → ¬ S k) : ARep w1 b s F := by
  obtain ⟨hF, v, hb, hO⟩ := h
  exact ⟨hF, v, hu.blk hb (hd b (blk_lt hb) hF), hO.keep hu (fun k hk hf => hd k hk hf.1)⟩
theorem ARep.mono (h : ARep w b s F) (hf : ∀ k, k < w.heap.size → F k → F' k) : ARep w b s F' := by
  obtain ⟨hF, v, hb, hO⟩ := h
  exact ⟨hf b (blk_lt hb) hF, v, hb, hO.mono (fun k hk h => ⟨hf k hk h.1, h.2⟩)⟩
theorem ARep.bound (h : ARep w b s F) : ARep w b s (fun k => F k ∧ k < w.heap.size) := h.mono (fun k hk hF => ⟨hF, hk⟩)
end
/-- The first packet is gone. -/
theorem ashift {W2 : World} {b g off cap o2 cap2 : Nat} {s : Ag} {F : Nat → Prop} {x : Pk} {xs : List Pk} {cur : Array Value} (hF : F b)
    (hb : W2.heap[b]? = some (.cells #[.int .i64 s.most, .slice (some ⟨g, off, none⟩) s.ps.length cap] 127 (0, 0)))
    (hO : OPks W2 (.slice (some ⟨g, off, none⟩) s.ps.length cap) s.ps (fun k => F k ∧ k ≠ b)) (hx : s.ps = x :: xs) (ho : xs ≠ [] → o2 = off + 2) (hg : W2.heap[g]? = some (.cells cur 129 (0, 0))) (hfit : o2 + cap2 * 2 ≤ cur.size) (hcap : xs.length ≤ cap2) (hFg : F g ∧ g ≠ b) :
    ARep (W2.setCell ⟨b, 1, none⟩ (.slice (some ⟨g, o2, none⟩) xs.length cap2)) b { s with ps := xs } F := by
  have hu := Upd.set1 W2 b 1 (.slice (some ⟨g, o2, none⟩) xs.length cap2)
  obtain ⟨cs, hOC, hE⟩ := hO
  rw [hx] at hOC hE
  obtain ⟨c, r, rfl, hcl, hc, hr⟩ := hE
  obtain ⟨g', off', cap', cur', he, -, hg', -, -, hcell⟩ := hOC.at (by simp)
  injection he with he1 _ he3
  injection he1 with he1
  injection he1 with he1 he4
  subst he1; subst he3; subst he4
  rw [hg] at hg'
  injection hg' with hg'
  injection hg' with hg' _ _
  subst hg'
  refine ⟨hF, .slice (some ⟨g, o2, none⟩) xs.length cap2, by rw [blk_setCell hb]; rfl, r, OC.keep ⟨hr.len, ?_, .inr ⟨g, o2, cap2, cur, rfl, hcap, hg, hfit, hFg, fun j u hj => ?_⟩⟩ hu (fun k _ hk e => hk.2 e), hr.imp fun _ _ h => (h.mono (fun k _ hk => ⟨hk.1, hk.2⟩)).keep hu (fun k _ hk e => hk.1.2 e)⟩
  · exact Nat.le_of_succ_le hOC.2.1
  · have hne : xs ≠ [] := by
      rintro rfl
      cases hr
      simp at hj
    rw [ho hne, Nat.add_assoc]
    refine hcell _ _ ?_
    rw [List.getElem?_append_right (by omega), show 2 + j - c.length = j by omega]
    exact hj
end Go.Kb
namespace Go.Proofs.Ytaakmkkgnboedaa
open Go Go.RowKit Go.Kb
theorem c43 (w : World) (b : Nat) (s : Ag) (F : Nat → Prop) (h : ARep w b s F) :
    Calls Try.prog 43 #[.pointer (some ⟨b, 0, none⟩)] w fun e w' => e = .returned (.int .i64 s.ps.length) ∧ w = w' := by
  obtain ⟨hF, v, hb, hO⟩ := h
  obtain ⟨a0, cap0, rfl⟩ := hO.slice
  obtain ⟨kb, kbf⟩ := blk_walk hb
  clear hO hb
  go_enter Try.func43, Try.ntmps43
  go_wp2
  go_ret
  exact ⟨rfl, rfl⟩
theorem c39e (w : World) (b : Nat) (s : Ag) (F : Nat → Prop) (h : ARep w b s F) (hx : s.ps = []) :
    Calls Try.prog 39 #[.pointer (some ⟨b, 0, none⟩)] w (Gives fun r w' => r = .tuple #[.slice none 0 0, .bool false] ∧ w = w') := by
  have HA := Lib.hid h
  have HX := Lib.hid hx
  clear h hx
  go_enter Try.func39, Try.ntmps39
  go_wp2_with (go_at_call 43; refine (c43 _ _ _ _ HA.out).mono ?_; rintro e w1 ⟨rfl, rfl⟩; rw [HX.out])
  refine bodyPost_ret (v := .tuple #[.slice none 0 0, .bool false]) (by simp [results, Try.results39, go_sem]) rfl (Gives.mk ⟨rfl, rfl⟩)
theorem c39 (w : World) (b : Nat) (s : Ag) (F : Nat → Prop) (h : ARep w b s F) (x : Pk) (hx : s.ps[0]? = some x) (hf : Fits x.b.length) :
    Calls Try.prog 39 #[.pointer (some ⟨b, 0, none⟩)] w (Gives fun r w' => ∃ v, r = .tuple #[v, .bool true] ∧ OBytes w' v x.b (From w.heap.size) ∧ Upd No w w') := by
  have HA := Lib.hid h
  obtain ⟨hF, v, hb, hO⟩ := h
  have hl : 0 < s.ps.length := (List.getElem?_eq_some_iff.1 hx).1
  obtain ⟨g, off, cap, pv, cur, rfl, hcap, hg, hs, hFg, hp, hc⟩ := hO.at hx
  obtain ⟨kb, kbf⟩ := blk_walk hb
  have hz : ((s.ps.length : Int) == 0) = false := beq_eq_false_iff_ne.2 (by omega)
  have hz2 : ¬ ((s.ps.length : Int) = 0) := by omega
  have hl' : (0 : Int) < s.ps.length := by omega
  have hc1 : w.cell? ⟨g, off + 1, none⟩ = some pv := by simpa using hc 1 _ rfl
  have HP := Lib.hid hp
  clear hO hb hx hc hg hs hp
  go_enter Try.func39, Try.ntmps39
  go_wp2_with (first
    | (go_at_call 43; refine (c43 _ _ _ _ HA.out).mono ?_; rintro e w1 ⟨rfl, rfl⟩)
    | (go_at_call 54; refine (c54 _ _ _ _ _ HP.out (byt_one _) hf).mono ?_; rintro e w1 ⟨r, rfl, ho, hu⟩; have HO1 := Lib.hid ho; have U1 := Lib.hid hu; clear ho hu))
  refine bodyPost_ret (by simp [results, Try.results39, go_sem]) rfl (Gives.mk ⟨_, rfl, HO1.out, U1.out⟩)
end Go.Proofs.Ytaakmkkgnboedaa
