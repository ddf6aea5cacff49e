/- Contract of layer 19: FewFrame. -/
import Derived.Test.YtaakmkkgnboedaaJ
namespace Go.Proofs.Ytaakmkkgnboedaa
open Go Go.RowKit Go.Kb
theorem RParts.at {w : World} {v : Value} {l : List Part} {F : Nat → Prop} (h : RParts w v l F) {i : Nat} {p : Part} (hi : l[i]? = some p) :
    ∃ g off cap rv, v = .slice (some ⟨g, off, none⟩) l.length cap ∧ RBytes w rv p.rest F ∧ ∀ j u, (p.c rv)[j]? = some u → w.cell? ⟨g, off + i * 14 + j, none⟩ = some u := by
  obtain ⟨cs, hO, hE⟩ := h
  have hlt := (List.getElem?_eq_some_iff.1 hi).1
  obtain ⟨g, off, cap, hv, hn, hF, hl, hc⟩ := RC.at hO (by omega)
  obtain ⟨c, hcl, ⟨rv, rfl, hp⟩, hat⟩ := hE.at i p hi
  exact ⟨g, off, cap, rv, hv, hp, fun j u hj => by rw [Nat.add_assoc]; exact hc _ _ (hat j u hj)⟩
def fewL (f : Fr) : Bool := decide (f.parts.length ≤ 60) && f.parts.all (fun p => decide (p.rest.length ≤ 200))
set_option maxRecDepth 100000 in
set_option maxHeartbeats 800000 in
theorem c44 (w : World) (v : Value) (f : Fr) (F : Nat → Prop) (h : RParts w v f.parts F) :
    Calls Try.prog 44 #[.agg (f.c v).toArray] w fun e w' => e = .returned (.bool (fewL f)) ∧ Upd No w w' := by
  obtain ⟨a0, cap0, rfl⟩ := h.slice
  have H := Lib.hid h
  have hml : f.parts.length ≤ maxLen := by obtain ⟨cs, hO, _⟩ := h; exact hO.2.1
  unfold maxLen at hml
  have k := blk_walk (blk_new w (.cells (f.c (.slice a0 f.parts.length cap0)).toArray 41))
  have HK := Lib.hid k
  clear h k
  have hU : Upd No w (w.alloc (.cells (f.c (.slice a0 f.parts.length cap0)).toArray 41)) := (Upd.refl _ _).alloc _
  have HU := Lib.hid hU
  clear hU
  go_enter Try.func44, Try.ntmps44
  go_wp2
  have HR := Lib.hid (RParts.keep H.out HU.out (fun _ _ _ f => f))
  have k10 := HK.out.1 10
  revert HU HR k10
  generalize w.alloc (.cells (f.c (.slice a0 f.parts.length cap0)).toArray 41) = W
  intro HU HR k10
  replace k10 : W.cell? ⟨w.heap.size, 10, none⟩ = some (.slice a0 f.parts.length cap0) := k10
  go_loopw [3] (fun i wr => wr = W ∧ ∃ k : Nat, (k ≤ f.parts.length ∧ k ≤ 61) ∧ i = .int .i64 k ∧ Hid (∀ p ∈ f.parts.take k, p.rest.length ≤ 200)) (fun i _ => 61 - (intOf i).toNat)
  case atStart => exact ⟨rfl, 0, ⟨Nat.zero_le _, by omega⟩, rfl, Lib.hid (fun p hp => by simp at hp)⟩
  case round =>
    obtain ⟨rfl, k, ⟨hk, hk2⟩, rfl, hI⟩ := hrel
    by_cases hlt : k < f.parts.length ∧ k < 61
    · obtain ⟨h1, h2⟩ := hlt
      obtain ⟨p, hp⟩ : ∃ p, f.parts[k]? = some p := ⟨_, List.getElem?_eq_getElem h1⟩
      obtain ⟨g, off, cap, rv, he, hr, hc⟩ := RParts.at HR.out hp
      injection he with he _ he3
      subst he; subst he3
      obtain ⟨ra, rcap, rfl, -⟩ := RC.slice hr
      have hrm : p.rest.length ≤ maxLen := hr.2.1
      unfold maxLen at hrm
      have k13 := hc 13 _ rfl
      have h1' : (k : Int) < f.parts.length := by omega
      have h2' : (k : Int) < 61 := by omega
      have HT : Hid (f.parts.take (k + 1) = f.parts.take k ++ [p]) := Lib.hid (by rw [List.take_add_one, hp]; rfl)
      have HP := Lib.hid (List.mem_of_getElem? hp)
      clear hr hc hp
      by_cases hb : p.rest.length ≤ 200
      · have hb' : ¬ (200 : Int) < p.rest.length := by omega
        go_wp2
        exact ⟨⟨trivial, k + 1, ⟨by omega, by omega⟩, by go_num, Lib.hid (fun q hq => by rw [HT.out] at hq; rcases List.mem_append.1 hq with hq | hq; exact hI.out q hq; (obtain rfl := List.mem_singleton.1 hq; exact hb))⟩, by simp [intOf]; omega⟩
      · have hb' : (200 : Int) < p.rest.length := by omega
        go_wp2
        go_ret
        exact ⟨ret_bool (by unfold fewL; rw [show f.parts.all (fun p => decide (p.rest.length ≤ 200)) = false from by rw [List.all_eq_false]; exact ⟨p, HP.out, by simpa using hb⟩]; simp), HU.out⟩
    · by_cases h3 : k < f.parts.length
      · go_wp2
        go_ret
        exact ⟨ret_bool (by unfold fewL; rw [show decide (f.parts.length ≤ 60) = false from decide_eq_false (by omega)]; simp; try omega), HU.out⟩
      · go_wp2
        go_ret
        exact ⟨ret_bool (by unfold fewL; rw [show f.parts.all (fun p => decide (p.rest.length ≤ 200)) = true from by rw [List.all_eq_true]; exact fun q hq => decide_eq_true (hI.out q (by rw [List.take_of_length_le (by omega)]; exact hq))]; simp; try omega), HU.out⟩
end Go.Proofs.Ytaakmkkgnboedaa
