/- Contract of layer 19: a row is written over. -/
import Derived.Test.YtaakmkkgnboedaaAk
namespace Go.Proofs.Ytaakmkkgnboedaa
open Go Go.RowKit Go.Kb
set_option linter.unusedVariables false
def I40 (w : World) (v : Value) (n : Nat) (F : Nat → Prop) (wr : World) : Prop := (∃ cs, OC wr 5 1 v n cs F) ∧ Upd F w wr
set_option maxHeartbeats 400000 in
theorem c40 (w : World) (v : Value) (n : Nat) (cs : List Value) (F : Nat → Prop) (h : OC w 5 1 v n cs F) (hf : Fits n) :
    Calls Try.prog 40 #[v] w fun e w' => e = .returned (.tuple #[]) ∧ Upd F w w' := by
  have hmax : n ≤ 60000 := hf
  obtain ⟨a0, cap0, rfl, -⟩ := h.slice
  have H0 : Hid (I40 w (.slice a0 n cap0) n F w) := Lib.hid ⟨⟨cs, h⟩, Upd.refl _ _⟩
  clear h
  go_enter Try.func40, Try.ntmps40
  go_wp2
  go_loopw [2] (fun i wr => ∃ k : Nat, k ≤ n ∧ i = .int .i64 k ∧ Hid (I40 w (.slice a0 n cap0) n F wr)) (fun i _ => n - (intOf i).toNat)
  case atStart => exact ⟨0, Nat.zero_le _, rfl, H0⟩
  case round =>
    obtain ⟨k, hk, rfl, hI⟩ := hrel
    by_cases hlt : k < n
    · obtain ⟨⟨cs1, h1⟩, h2⟩ := hI.out
      obtain ⟨g, off, cap, cur, he, hn, hb, hs, hF, hc⟩ := h1.at (by omega)
      injection he with he _ he3
      subst he; subst he3
      obtain ⟨kb, kbf⟩ := blk_walk hb
      have hkc : k < cs1.length := by rw [h1.1]; omega
      have hlt' : (k : Int) < n := by omega
      have hx : wr.cell? ⟨g, off + k, none⟩ = some (cs1[k]) := (kb (off + k)).trans (hc k _ (List.getElem?_eq_getElem hkc))
      have hfz := kbf (off + k)
      have H3 : Hid (I40 w (.slice (some ⟨g, off, none⟩) n cap0) n F (wr.setCell ⟨g, off + k, none⟩ (.int .u8 165))) := Lib.hid ⟨⟨_, h1.set k hkc _⟩, h2.setCell (p := ⟨g, off + k, none⟩) (fun _ => hF) _⟩
      clear kb kbf h1 h2 hb hc hI
      go_wp2
      exact ⟨⟨k + 1, by omega, by go_num, H3⟩, by simp [intOf]; omega⟩
    · obtain rfl : k = n := by omega
      go_wp2
      go_end0
      exact ⟨rfl, hI.out.2⟩
end Go.Proofs.Ytaakmkkgnboedaa
