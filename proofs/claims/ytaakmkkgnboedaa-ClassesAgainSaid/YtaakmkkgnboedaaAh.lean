/- Contracts of layer 19: packets that are sent again: New, Shift, what Put asks. -/
import Derived.Test.YtaakmkkgnboedaaAg
import Derived.Test.YtaakmkkgnboedaaK
namespace Go.Proofs.Ytaakmkkgnboedaa
open Go Go.RowKit Go.Kb
set_option linter.unusedVariables false
theorem c41e (w : World) (b : Nat) (s : Ag) (F : Nat → Prop) (h : ARep w b s F) (hx : s.ps = []) :
    Calls Try.prog 41 #[.pointer (some ⟨b, 0, none⟩)] w (Gives fun r w' => r = .tuple #[.slice none 0 0, .bool false] ∧ w = w') := by
  go_enter Try.func41, Try.ntmps41
  go_wp2_with (go_at_call 39; refine (c39e _ _ _ _ h hx).mono ?_; rintro e w1 ⟨r, rfl, rfl, rfl⟩)
  refine bodyPost_ret (v := .tuple #[.slice none 0 0, .bool false]) (by simp [results, Try.results41, go_sem]) rfl (Gives.mk ⟨rfl, rfl⟩)
set_option maxHeartbeats 400000 in
theorem c41 (w : World) (b : Nat) (s : Ag) (F : Nat → Prop) (h : ARep w b s F) (hf : Fits s.ps.length) (x : Pk) (xs : List Pk) (hx : s.ps = x :: xs) (hxf : Fits x.b.length) :
    Calls Try.prog 41 #[.pointer (some ⟨b, 0, none⟩)] w (Gives fun r w' => ∃ v, r = .tuple #[v, .bool true] ∧ OBytes w' v x.b (From w.heap.size) ∧ ARep w' b { s with ps := xs } F ∧ Upd F w w') := by
  have HA := Lib.hid h
  obtain ⟨hF, v, hb, hO⟩ := HA.out
  have hmax : s.ps.length ≤ 60000 := hf
  have hl : 0 < s.ps.length := by rw [hx]; simp
  have hx0 : s.ps[0]? = some x := by rw [hx]; rfl
  obtain ⟨g, off, cap, pv, cur, rfl, hcap, hg, hs, hFg, hp, hc⟩ := hO.at hx0
  have HB := Lib.hid hb
  have HO := Lib.hid hO
  have HX := Lib.hid hx
  have HX0 := Lib.hid hx0
  have HG := Lib.hid hg
  clear hO hb hx hc hg hp hx0 h hf
  have hlen : s.ps.length = xs.length + 1 := by rw [HX.out]; rfl
  have hbl := blk_lt HB.out
  by_cases hc1 : cap = 1
  all_goals
    go_enter Try.func41, Try.ntmps41
    go_wp2_with (go_at_call 39; refine (c39 _ _ _ _ HA.out x HX0.out hxf).mono ?_; rintro e w1 ⟨r, rfl, v1, rfl, ho, u⟩; have U1 := Lib.hid u; have HB1 := Lib.hid (u.blk HB.out (fun f => f)); have HO1 := Lib.hid ho; have hsz := u.size; obtain ⟨kb, kbf⟩ := blk_walk HB1.out; clear u ho)
    refine bodyPost_ret (by simp [results, Try.results41, go_sem]) rfl (Gives.mk ⟨v1, rfl, ?_, ?_, ?_⟩)
    · exact HO1.out.keep (Upd.set1 w1 b 1 _) (fun k _ hk e => from_ne hk e hbl)
    · exact (ashift (F := F) hF HB1.out (HO.out.keep U1.out (fun _ _ _ f => f)) HX.out (fun hne => by first | rfl | (exfalso; have := List.length_pos_iff.2 hne; omega)) (U1.out.blk HG.out (fun f => f)) (by omega) (by omega) hFg)
    · exact (U1.out.mono (fun _ _ f => f.elim)).trans (Upd.set1 w1 b 1 _) (fun k _ e => (show k = b from e) ▸ hF)
end Go.Proofs.Ytaakmkkgnboedaa
