/- The law of layer 19 on packets that are sent again: what its walk leans on. -/
import Derived.Test.YtaakmkkgnboedaaAl
import Derived.Test.YtaakmkkgnboedaaV
namespace Go.Proofs.Ytaakmkkgnboedaa
open Go Go.RowKit Go.Kb
set_option linter.unusedVariables false
theorem c11 (n : Int) (hn : 1 ≤ n ∧ n ≤ 256) (w : World) : Calls Try.prog 11 #[.int .i64 n] w fun e w' => e = .returned (.bool true) ∧ w = w' := by
  obtain ⟨h1, h2⟩ := hn
  go_enter Try.func11, Try.ntmps11
  go_wp2
  go_ret
  exact ⟨rfl, rfl⟩
theorem c11no (n : Int) (hn : ¬ (1 ≤ n ∧ n ≤ 256)) (w : World) : Calls Try.prog 11 #[.int .i64 n] w fun e w' => e = .returned (.bool false) ∧ w = w' := by
  rcases (show n < 1 ∨ (1 ≤ n ∧ 256 < n) by omega) with h | ⟨h1, h2⟩
  all_goals
    go_enter Try.func11, Try.ntmps11
    go_wp2
    go_ret
    first | exact ⟨rfl, rfl⟩ | exact ⟨ret_bool (decide_eq_false (by omega)), rfl⟩
def u16s (l : List Int) : List Value := l.map (Value.int .u16)
theorem u16s_len (l : List Int) : (u16s l).length = l.length := by simp [u16s]
def byteOf (n : Int) : Int := n % 256
/-- What the law knows of a packet. -/
def PkOk (p : Pk) : Prop := p.b = [p.seq % 256] ∧ 0 ≤ p.seq ∧ p.seq < 65536
def I5 (w : World) (A : Nat) (n : Int) (k : Nat) (ps : List Pk) (v : Value) (wr : World) : Prop :=
  ps.length ≤ k ∧ (∀ p ∈ ps, PkOk p) ∧ Upd No w wr ∧ ∃ FA FW : Nat → Prop, ARep wr A ⟨n, ps⟩ FA ∧ OC wr 36 1 v ps.length (u16s (ps.map (·.seq))) FW ∧ (∀ j, FA j → ¬ FW j) ∧ (∀ j, FA j → w.heap.size ≤ j ∧ j < wr.heap.size) ∧ (∀ j, FW j → w.heap.size ≤ j ∧ j < wr.heap.size)
theorem I5.keep {w wr w1 : World} {A k : Nat} {n : Int} {ps : List Pk} {v : Value} (h : I5 w A n k ps v wr) (hu : Upd (From wr.heap.size) wr w1) : I5 w A n k ps v w1 := by
  obtain ⟨h1, h2, h3, FA, FW, h4, h5, h6, h7, h8⟩ := h
  have hs := hu.size
  refine ⟨h1, h2, h3.trans hu (fun k hk e => absurd (Nat.le_trans h3.size e) (Nat.not_le.2 hk)), FA, FW, h4.keep hu (fun k hk hF e => absurd e (Nat.not_le.2 hk)), h5.keep hu (fun k hk hF e => absurd e (Nat.not_le.2 hk)), h6, fun j hj => ⟨(h7 j hj).1, Nat.lt_of_lt_of_le (h7 j hj).2 hs⟩, fun j hj => ⟨(h8 j hj).1, Nat.lt_of_lt_of_le (h8 j hj).2 hs⟩⟩
end Go.Proofs.Ytaakmkkgnboedaa
namespace Go.Kb
open Go.RowKit
/-- The first element is gone. -/
theorem OC.tl {w : World} {ty : TypeId} {n g off cap o2 cap2 : Nat} {c : Value} {cs : List Value} {cur : Array Value} {F : Nat → Prop} (h : OC w ty 1 (.slice (some ⟨g, off, none⟩) (n + 1) cap) (n + 1) (c :: cs) F)
    (ho : n ≠ 0 → o2 = off + 1) (hg : w.heap[g]? = some (.cells cur ty (0, 0))) (hfit : o2 + cap2 ≤ cur.size) (hcap : n ≤ cap2) : OC w ty 1 (.slice (some ⟨g, o2, none⟩) n cap2) n cs F := by
  obtain ⟨g', off', cap', cur', he, -, hg', -, hF, hcell⟩ := h.at (by omega)
  injection he with he1 _ he3
  injection he1 with he1
  injection he1 with he1 he4
  subst he1; subst he3; subst he4
  rw [hg] at hg'
  injection hg' with hg'
  injection hg' with hg' _ _
  subst hg'
  have hl := h.1
  simp only [List.length_cons] at hl
  refine ⟨by omega, Nat.le_of_succ_le h.2.1, .inr ⟨g, o2, cap2, cur, rfl, hcap, hg, by omega, hF, fun j u hj => ?_⟩⟩
  have hn : n ≠ 0 := by
    rintro rfl
    have := (List.getElem?_eq_some_iff.1 hj).1
    omega
  rw [ho hn, Nat.add_assoc, Nat.add_comm 1 j]
  exact hcell (j + 1) u (by simpa using hj)
end Go.Kb
namespace Go.Proofs.Ytaakmkkgnboedaa
open Go Go.RowKit Go.Kb
theorem u16s_one (l : List Int) : ∀ u ∈ u16s l, u.oneCell' = true := by intro u hu; simp [u16s] at hu; obtain ⟨a, _, rfl⟩ := hu; rfl
theorem I5.shift {w w4 w5 : World} {A k : Nat} {n : Int} {p : Pk} {ps : List Pk} {v' : Value} {FA FW : Nat → Prop} (hle : ps.length + 1 ≤ k) (hok : ∀ q ∈ p :: ps, PkOk q) (hU : Upd No w w4)
    (hd : ∀ j, FA j → ¬ FW j) (hfa : ∀ j, FA j → w.heap.size ≤ j ∧ j < w4.heap.size) (hfw : ∀ j, FW j → w.heap.size ≤ j ∧ j < w4.heap.size)
    (hA : ARep w5 A ⟨n, ps⟩ FA) (hu : Upd FA w4 w5) (hW : OC w5 36 1 v' ps.length (u16s (ps.map (·.seq))) FW) : I5 w A n (k + 1) ps v' w5 := by
  have hs := hu.size
  refine ⟨by omega, fun q hq => hok q (List.mem_cons_of_mem _ hq), hU.trans hu (fun k hk e => absurd (hfa k e).1 (Nat.not_le.2 hk)), FA, FW, hA, hW, hd, fun j hj => ⟨(hfa j hj).1, Nat.lt_of_lt_of_le (hfa j hj).2 hs⟩, fun j hj => ⟨(hfw j hj).1, Nat.lt_of_lt_of_le (hfw j hj).2 hs⟩⟩
theorem I5.next {w wr : World} {A k : Nat} {n : Int} {ps : List Pk} {v : Value} (h : I5 w A n k ps v wr) : I5 w A n (k + 1) ps v wr := ⟨Nat.le_succ_of_le h.1, h.2⟩
theorem I5.more {w w5 w7 w8 w9 w10 : World} {A k : Nat} {n x : Int} {ps : List Pk} {v' : Value} {FA FW : Nat → Prop} (hx : 0 ≤ x ∧ x < 65536) (hle : ps.length ≤ k) (hok : ∀ q ∈ ps, PkOk q) (hU : Upd No w w5)
    (hd : ∀ j, FA j → ¬ FW j) (hfa : ∀ j, FA j → w.heap.size ≤ j ∧ j < w5.heap.size) (hfw : ∀ j, FW j → w.heap.size ≤ j ∧ j < w5.heap.size)
    (h7 : ARep w7 A ⟨n, ps ++ [⟨x, [x % 256]⟩]⟩ (fun k => FA k ∨ w5.heap.size + 1 ≤ k)) (u7 : Upd FA w5 w7) (u8 : Upd (Only w5.heap.size) w7 w8) (u9 : Upd No w8 w9) (hs : w5.heap.size + 1 ≤ w7.heap.size)
    (h10 : OC w10 36 1 v' (ps.length + 1) (u16s (ps.map (·.seq)) ++ [.int .u16 x]) (fun k => FW k ∨ w9.heap.size ≤ k)) (u10 : Upd FW w9 w10) : I5 w A n (k + 1) (ps ++ [⟨x, [x % 256]⟩]) v' w10 := by
  have s7 := u7.size
  have s8 := u8.size
  have s9 := u9.size
  have s10 := u10.size
  refine ⟨by simp; omega, fun q hq => ?_, ?_, _, (fun k => (FW k ∨ w9.heap.size ≤ k) ∧ k < w10.heap.size), ((h7.bound.keep u8 (fun k hk h e => ?_)).keep u9 (fun _ _ _ f => f)).keep u10 (fun k hk h e => ?_), ?_, ?_, fun j hj => ?_, ?_⟩
  · rcases List.mem_append.1 hq with h | h
    · exact hok q h
    · cases List.mem_singleton.1 h
      exact ⟨rfl, hx⟩
  · refine (((hU.trans u7 (fun k hk e => ?_)).trans u8 (fun k hk e => ?_)).then0 u9).trans u10 (fun k hk e => ?_)
    · exact absurd (hfa k e).1 (Nat.not_le.2 hk)
    · have : k = w5.heap.size := e
      have := hU.size
      omega
    · exact absurd (hfw k e).1 (Nat.not_le.2 hk)
  · have e1 : k = w5.heap.size := e
    rcases h.1 with h | h
    · have := hfa k h; omega
    · omega
  · rcases h.1 with h | h
    · exact hd k h e
    · have := hfw k e; omega
  · rw [List.length_append, List.map_append]
    have : u16s (ps.map (·.seq) ++ [(⟨x, [x % 256]⟩ : Pk)].map (·.seq)) = u16s (ps.map (·.seq)) ++ [.int .u16 x] := by simp [u16s]
    rw [this]
    exact h10.bound
  · intro j hj h
    rcases hj.1 with hj1 | hj1
    · rcases h.1 with h | h
      · exact hd j hj1 h
      · have := (hfa j hj1).2; omega
    · rcases h.1 with h | h
      · have := hfw j h; omega
      · have := hj.2; omega
  · have hs5 := hU.size
    rcases hj.1 with h | h
    · exact ⟨(hfa j h).1, Nat.lt_of_lt_of_le hj.2 (by omega)⟩
    · exact ⟨by omega, Nat.lt_of_lt_of_le hj.2 (by omega)⟩
  · intro j hj
    have hs5 := hU.size
    rcases hj.1 with h | h
    · exact ⟨(hfw j h).1, hj.2⟩
    · exact ⟨by omega, hj.2⟩
/-- May a number be put, after so many have been looked at? -/
def mayJ (n x : Int) (ps : List Pk) (j : Nat) : Bool := decide ((ps.length : Int) < n) && !((ps.take j).any (fun p => p.seq == x))
theorem mayJ_zero (n x : Int) (ps : List Pk) : mayJ n x ps 0 = decide ((ps.length : Int) < n) := by simp [mayJ]
theorem mayJ_succ {n x : Int} {ps : List Pk} {j : Nat} {p : Pk} (h : ps[j]? = some p) : mayJ n x ps (j + 1) = (mayJ n x ps j && !(p.seq == x)) := by
  unfold mayJ
  rw [List.take_add_one, h]
  simp [Bool.and_assoc]
theorem mayJ_all (n x : Int) (ps : List Pk) : mayJ n x ps ps.length = mayPut ⟨n, ps⟩ x := by
  unfold mayJ mayPut
  rw [List.take_length]
  congr 1
end Go.Proofs.Ytaakmkkgnboedaa
namespace Go.Proofs.Ytaakmkkgnboedaa
open Go Go.RowKit Go.Kb
theorem info36 : (Try.prog.info? 36).map (fun i => (i.zero, i.size, i.bytes)) = some (some (.int .u16 0), 1, 2) := by kernel_rfl
end Go.Proofs.Ytaakmkkgnboedaa
