/- Contract of layer 19: same. -/
import Derived.Test.YtaakmkkgnboedaaS
namespace Go.Proofs.Ytaakmkkgnboedaa
open Go Go.RowKit Go.Kb
def I46 (w : World) (a b : List Int) (k : Nat) (wr : World) : Prop := Upd No w wr ∧ a.take k = b.take k
theorem ints_at {l : List Int} {k : Nat} {p : Int} (h : l[k]? = some p) : (ints l)[k]? = some (.int .i64 p) := by simp [ints, h]
set_option maxRecDepth 100000 in
set_option maxHeartbeats 800000 in
theorem c46 (w : World) (u v : Value) (a b : List Int) (F G : Nat → Prop) (hu : RC w 1 u a.length (ints a) F) (hv : RC w 1 v b.length (ints b) G) (hf : Fits a.length) :
    Calls Try.prog 46 #[u, v] w fun e w' => e = .returned (.bool (decide (a = b))) ∧ Upd No w w' := by
  have hmax : a.length ≤ 60000 := hf
  obtain ⟨a1, cap1, rfl, -⟩ := RC.slice hu
  obtain ⟨a2, cap2, rfl, -⟩ := RC.slice hv
  have HU := Lib.hid hu
  have HV := Lib.hid hv
  clear hu hv hf
  by_cases hlen : a.length = b.length
  case neg =>
    have hne : ¬ a = b := fun h => hlen (by rw [h])
    have hl2 : ¬ ((a.length : Int) = b.length) := by omega
    go_enter Try.func46, Try.ntmps46
    go_wp2
    go_ret
    exact ⟨ret_bool (by simp [hne]), Upd.refl _ _⟩
  have HLEN := Lib.hid hlen
  rw [← hlen]
  go_enter Try.func46, Try.ntmps46
  go_wp2
  go_loopw [5] (fun i wr => ∃ k : Nat, k ≤ a.length ∧ i = .int .i64 k ∧ Hid (I46 w a b k wr)) (fun i _ => a.length - (intOf i).toNat)
  case atStart => exact ⟨0, Nat.zero_le _, rfl, Lib.hid ⟨Upd.refl _ _, rfl⟩⟩
  case round =>
    obtain ⟨k, hk, rfl, hI⟩ := hrel
    by_cases hlt : k < a.length
    · obtain ⟨x, hx⟩ : ∃ x, a[k]? = some x := ⟨_, List.getElem?_eq_getElem hlt⟩
      obtain ⟨y, hy⟩ : ∃ y, b[k]? = some y := ⟨_, List.getElem?_eq_getElem (by have := HLEN.out; omega)⟩
      obtain ⟨g1, o1, cp1, he1, -, -, -, hc1⟩ := RC.at (RC.keep HU.out hI.out.1 (fun _ _ _ f => f)) (by omega)
      obtain ⟨g2, o2, cp2, he2, -, -, -, hc2⟩ := RC.at (RC.keep HV.out hI.out.1 (fun _ _ _ f => f)) (by have := HLEN.out; omega)
      injection he1 with he1 _ he13
      subst he1; subst he13
      injection he2 with he2 _ he23
      subst he2; subst he23
      have k1 := hc1 k _ (ints_at hx)
      have k2 := hc2 k _ (ints_at hy)
      have hlt' : (k : Int) < a.length := by omega
      have HX := Lib.hid (And.intro hx hy)
      clear hc1 hc2 hx hy hlen
      by_cases hxy : x = y
      all_goals
        go_wp2
        go_region
        all_goals (try go_wp2)
      · exact ⟨⟨k + 1, by omega, by go_num, Lib.hid ⟨hI.out.1.drew, by rw [List.take_add_one, List.take_add_one, HX.out.1, HX.out.2, hI.out.2, hxy]⟩⟩, by simp [intOf]; omega⟩
      · go_ret
        exact ⟨ret_bool (by have hne : ¬ a = b := fun h => hxy (by have h1 := HX.out.1; rw [h, HX.out.2] at h1; injection h1 with h1; exact h1.symm)
                            simp [hne]), hI.out.1.drew⟩
    · obtain rfl : k = a.length := by omega
      clear hlen
      go_wp2
      go_ret
      exact ⟨ret_bool (by have h := hI.out.2; rw [List.take_length] at h; rw [show b.take a.length = b by rw [HLEN.out, List.take_length]] at h; simp [h]), hI.out.1⟩
end Go.Proofs.Ytaakmkkgnboedaa
