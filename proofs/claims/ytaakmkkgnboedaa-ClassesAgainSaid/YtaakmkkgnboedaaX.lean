/- Contracts of layer 19: no row of packets. -/
import Derived.Test.YtaakmkkgnboedaaJ
namespace Go.Proofs.Ytaakmkkgnboedaa
open Go Go.RowKit Go.Kb
theorem c43n (w : World) : Calls Try.prog 43 #[.pointer none] w fun e w' => e = .returned (.int .i64 0) ∧ w = w' := by
  go_enter Try.func43, Try.ntmps43
  go_wp2
  go_ret
  exact ⟨rfl, rfl⟩
theorem c39n (w : World) : Calls Try.prog 39 #[.pointer none] w (Gives fun r w' => r = .tuple #[.slice none 0 0, .bool false] ∧ w = w') := by
  go_enter Try.func39, Try.ntmps39
  go_wp2_with (go_at_call 43; refine (c43n _).mono ?_; rintro e w1 ⟨rfl, rfl⟩)
  refine bodyPost_ret (v := .tuple #[.slice none 0 0, .bool false]) (by simp [results, Try.results39, go_sem]) rfl (Gives.mk ⟨rfl, rfl⟩)
theorem c41n (w : World) : Calls Try.prog 41 #[.pointer none] w (Gives fun r w' => r = .tuple #[.slice none 0 0, .bool false] ∧ w = w') := by
  go_enter Try.func41, Try.ntmps41
  go_wp2_with (go_at_call 39; refine (c39n _).mono ?_; rintro e w1 ⟨r, rfl, rfl, rfl⟩)
  refine bodyPost_ret (v := .tuple #[.slice none 0 0, .bool false]) (by simp [results, Try.results41, go_sem]) rfl (Gives.mk ⟨rfl, rfl⟩)
theorem c42n (n : Int) (v : Value) (w : World) : Calls Try.prog 42 #[.pointer none, .int .u16 n, v] w fun e w' => e = .returned (.bool false) ∧ Upd No w w' := by
  go_enter Try.func42, Try.ntmps42
  go_wp2
  go_region
  all_goals (try go_wp2)
  all_goals go_ret
  all_goals exact ⟨rfl, ((Upd.refl _ _).alloc _).drew⟩
end Go.Proofs.Ytaakmkkgnboedaa
