import Derived.Test.YtaakmkkgnboedaaT
import Derived.Test.YtaakmkkgnboedaaR
import Derived.Test.YtaakmkkgnboedaaN
import Derived.Test.YtaakmkkgnboedaaJ
namespace Go.Proofs.Ytaakmkkgnboedaa
open Go Go.RowKit Go.Kb
set_option maxRecDepth 100000 in
set_option maxHeartbeats 400000 in
theorem wpList_build2 {ops : Array Oper} {rest : List Oper} {o : Oper} {a : Act} {w : World} {Q : Exit → Act → World → Prop} (hgd : o.guard = none) (t t2 : Operand) (ho : o.op = .buildSlice 73 2 #[(0, t), (1, t2)]) (x y : En) (u v : Value) (ht : a.eval t = .agg (x.c u).toArray) (ht2 : a.eval t2 = .agg (y.c v).toArray)
    (h : wpList Try.prog ops Q rest (a.put o.dst (.slice (some ⟨w.heap.size, 0, none⟩) 2 2)) (w.alloc (.cells (x.c u ++ y.c v).toArray 45))) : wpList Try.prog ops Q (o :: rest) a w :=
  wpList_plain hgd fun K hK => by
    unfold Oper.wp execOp
    simp only [ho, List.map_toArray, List.map_cons, List.map_nil, ht, ht2]
    go_simp
    simp only [En.c, List.length_cons, List.length_nil, List.zipIdx_cons, List.zipIdx_nil, List.foldl_cons, List.foldl_nil, List.setIfInBounds_toArray, List.set_cons_zero, List.set_cons_succ, List.cons_append, List.nil_append, List.append_nil]
    go_simp
    exact hK _ _ h
theorem REns.one1 {w : World} {x : En} {u : Value} {G : Nat → Prop} (hp : RParts w u x.fr.parts G) :
    REns (w.alloc (.cells (x.c u).toArray 45)) (.slice (some ⟨w.heap.size, 0, none⟩) 1 1) [x] (fun k => G k ∨ k = w.heap.size) :=
  ⟨x.c u, (RC.new w 17 (x.c u) 45 1 rfl (by decide)).mono (fun k _ hk => .inr hk), Els.one rfl ⟨u, rfl, (hp.keep ((Upd.refl No _).alloc _) (fun _ _ _ f => f)).mono (fun _ _ h => .inl h)⟩⟩
theorem REns.two {w : World} {x y : En} {u v : Value} {G : Nat → Prop} (hp : RParts w u x.fr.parts G) (hq : RParts w v y.fr.parts G) :
    REns (w.alloc (.cells (x.c u ++ y.c v).toArray 45)) (.slice (some ⟨w.heap.size, 0, none⟩) 2 2) [x, y] (fun k => G k ∨ k = w.heap.size) :=
  ⟨x.c u ++ y.c v, (RC.new w 17 (x.c u ++ y.c v) 45 2 rfl (by decide)).mono (fun k _ hk => .inr hk),
    Els.append (Els.one rfl ⟨u, rfl, (hp.keep ((Upd.refl No _).alloc _) (fun _ _ _ f => f)).mono (fun _ _ h => .inl h)⟩) (Els.one rfl ⟨v, rfl, (hq.keep ((Upd.refl No _).alloc _) (fun _ _ _ f => f)).mono (fun _ _ h => .inl h)⟩)⟩
theorem madeE_small (key : Bool) (n g : Int) : Small (madeE key n g) := ⟨show 1 ≤ 60000 by decide, fun p hp => by cases hp with | head => exact show 3 ≤ 60000 by decide | tail _ h => cases h⟩
theorem small1 (key : Bool) (n g : Int) : ∀ x ∈ [madeE key n g], Small x := fun x hx => by cases hx with | head => exact madeE_small _ _ _ | tail _ h => cases h
theorem small2 (key key2 : Bool) (n g n2 g2 : Int) : ∀ x ∈ [madeE key n g, madeE key2 n2 g2], Small x := fun x hx => by cases hx with | head => exact madeE_small _ _ _ | tail _ h => exact small1 _ _ _ x h
def s0 : Q := ⟨2, true, false, []⟩
def s1w (n : Nat) : Q := (putsL s0 [madeE (n == 2) 1 1]).1
def s2w (n : Nat) : Q := { s1w n with begun := n == 3 }
def rw_ (n : Nat) : Q × Int := putsL (s2w n) [madeE (n == 1 || n == 3) 2 1, madeE false 3 1]
def wantw (n : Nat) : List Int := if n < 2 then [-1, 2, 3] else [1, 2, -1]
theorem works_m : ∀ n, n < 4 → (putsL s0 [madeE (n == 2) 1 1]).2 = 0 ∧ (s1w n).begun = false ∧ (s1w n).es = [madeE (n == 2) 1 1] ∧ (rw_ n).2 = 1 ∧ (rw_ n).1.es.map waitE = wantw n := by
  intro n hn
  have : n = 0 ∨ n = 1 ∨ n = 2 ∨ n = 3 := by omega
  rcases this with rfl | rfl | rfl | rfl <;> exact ⟨rfl, rfl, rfl, rfl, rfl⟩
end Go.Proofs.Ytaakmkkgnboedaa
