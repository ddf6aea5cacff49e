/- Proved: ClassesAgain returns true at every input, and every argument reads afterwards as it read before. Conditions: none. -/
import Derived.Test.YtaakmkkgnboedaaRows
import Derived.Test.YtaakmkkgnboedaaAn
import Derived.Test.YtaakmkkgnboedaaRd
import Derived.ProofKit
import Derived.OpenShut
import Derived.ShutString
namespace Go.Proofs.Ytaakmkkgnboedaa
open Go Go.ChangeShapes Go.WideShapes Go.ChangeAt Go.RowKit Go.Kb
theorem own5 : ownKnob Try.prog.godebug = none := by kernel_rfl
theorem laidOut5 : laidOutB Try.prog = true := by kernel_rfl
theorem els_u16 {l : List Int} : ∀ {ds : List Value}, Els 1 (fun (n : Int) c => c = [.int .u16 n] ∧ (Lit.int .u16 n).wf = true) l ds → ds = u16s l ∧ ∀ x ∈ l, 0 ≤ x ∧ x < 65536 := by
  induction l with
  | nil => intro ds h; exact ⟨h, fun x hx => by cases hx⟩
  | cons a l ih =>
    rintro ds ⟨c, r, rfl, _, ⟨rfl, hw⟩, hr⟩
    obtain ⟨rfl, h2⟩ := ih hr
    refine ⟨rfl, fun x hx => ?_⟩
    rcases List.mem_cons.1 hx with rfl | hx
    · have := bounds_u16 hw
      omega
    · exact h2 x hx
theorem again_all (n : Int) (w : World) (v : Value) (l : List Int) (G : Nat → Prop) (hl : RC w 1 v l.length (u16s l) G) (hr : ∀ x ∈ l, 0 ≤ x ∧ x < 65536) :
    Calls Try.prog 5 #[.int .i64 n, v] w fun e w' => e = .returned (.bool true) ∧ Upd No w w' := by
  by_cases hm : l.length ≤ 40
  · by_cases hn : 1 ≤ n ∧ n ≤ 256
    · exact c5 n hn w v l G hl hr hm
    · obtain ⟨a, cap, rfl, _⟩ := hl.slice
      exact c5bad n hn w a _ cap hm
  · obtain ⟨a, cap, rfl, _⟩ := hl.slice
    exact c5long n w a _ cap (by omega)
set_option maxRecDepth 100000 in
theorem again_lifted (os : Os) (started : os.Started) (H : Type) (enc : TypeId × Value → H) :
    ReturnsInHanded {} Try.checked os 5 .any (Rows.classesAgainSpec.pre6 enc Try.prog Try.f5 Rows.classesAgainRow.domain false) (Rows.classesAgainSpec.post enc Try.prog Try.f5 false true false false) := by
  refine returnsInHanded_of_change (C := Try.checked) own5 started (by kernel_rfl) Try.func5
    (ChangeSpec.witness6 (enc := enc) (C := Try.checked) false ⟨#[], #[.int .i64 0, .slice none 0 0], []⟩ 20 (by kernel_rfl) (by kernel_rfl) (by kernel_rfl) (by kernel_rfl)) ?_
  intro W base args ds gs before hval0 hW hcnd _
  have hval : ∀ (j : Nat) t v, Try.f5.params[j]? = some t → args[j]? = some v → Value.okWide Try.prog W .any base t v := hval0
  have hW' := hW
  obtain ⟨p, q, hA0, hV, rfl, hfz, hnd⟩ := hW
  have hA : DataW.TrodAll enc Try.prog W 0 (fun _ => true) true Try.f5.params.toList args.toList ds p := hA0
  rw [Try.params5] at hA hval
  obtain ⟨v0, vs0, d0, ds0, p0, q0, hargs, rfl, rfl, h0, r0⟩ := trodAll_cons hA
  obtain ⟨v1, vs1, d1, ds1, p1, q1, rfl, rfl, rfl, h1, r1⟩ := trodAll_cons r0
  obtain ⟨rfl, rfl, rfl⟩ := trodAll_nil r1
  obtain rfl : args = #[v0, v1] := by cases args; simp_all
  obtain ⟨rfl, rfl⟩ := trodVars_none hV
  obtain ⟨a0, rfl, rfl, rfl, w0⟩ := open_int Try.underlying3 (hval 0 3 v0 rfl rfl) h0
  obtain ⟨a1, len1, cap1, rfl⟩ := okWide_slice Try.underlying88 (hval 1 88 v1 rfl rfl)
  have k1 := h1
  have lt1 : ∀ x ∈ p1, x.block < W.heap.size := by obtain ⟨m, hm⟩ := k1; exact DataW.trod_lt m _ _ _ hm
  obtain ⟨l, hl, hr⟩ : ∃ l : List Int, RC W 1 (.slice a1 len1 cap1) l.length (u16s l) (fun k => k < W.heap.size) ∧ ∀ x ∈ l, 0 ≤ x ∧ x < 65536 := by
    obtain ⟨fuel, hf⟩ := h1
    obtain ⟨v, l, ds, he, hR, hE⟩ := trod_els (R := fun (n : Int) c => c = [.int .u16 n] ∧ (Lit.int .u16 n).wf = true) Try.underlying88 (sz := 1) (by kernel_rfl) (by decide) (fun fuel cs x h => by
      obtain ⟨n, e, _, hw⟩ := DataW.trod_int Try.underlying36 h
      exact ⟨n, e, hw⟩) hf
    obtain ⟨rfl, h2⟩ := els_u16 hE
    have hv : v = .slice a1 len1 cap1 := by
      have : (Value.slice a1 len1 cap1).cells.toList = [.slice a1 len1 cap1] := rfl
      rw [this] at he
      exact (List.cons.inj he).1.symm
    subst hv
    exact ⟨l, hR, h2⟩
  clear hA0 hval0
  refine (again_all a0 W _ l _ hl hr).mono fun e' W' ⟨he, bel⟩ => ?_
  subst he
  exact ⟨_, rfl, _, _, _, [], _, [], hW', trodAll_mk1 (shut_bool Try.underlying4 _), (trodAll_cons_mk (shut_int Try.underlying3 w0) (trodAll_cons_mk (Below.trod laidOut5 (by kernel_rfl) (of_decide_eq_true (by kernel_rfl)) k1 bel.below lt1) trodAll_mk0)), rfl, bel.below.frame _, fun h => by cases h⟩
theorem again_holds : Rows.ClassesAgainSaid :=
  OpenClaim.holds_of_wide 5 Try.f5 rfl rfl rfl rfl rfl rfl rfl ⟨rfl, rfl, rfl, rfl, rfl⟩ rfl rfl rfl rfl rfl (by kernel_rfl) Try.func5 (by kernel_rfl)
    (of_decide_eq_true (by kernel_rfl)) (by unfold Func.isWrapper; first | (rw [if_pos (by decide +kernel)]; kernel_rfl) | (rw [if_neg (by decide +kernel)]; exact ⟨rfl, rfl⟩))
    (fun os started H enc _ => again_lifted os started H enc)
#print axioms again_holds
end Go.Proofs.Ytaakmkkgnboedaa
