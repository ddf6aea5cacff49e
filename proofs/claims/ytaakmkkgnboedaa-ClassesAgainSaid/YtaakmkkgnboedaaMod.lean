/- The data of layer 19: entries, items, frames, parts, as plain Lean values, and how they lie in memory. -/
import Derived.Test.YtaakmkkgnboedaaBase
set_option linter.unusedVariables false
set_option linter.unusedSimpArgs false
namespace Go.Kb
open Go.RowKit

/-! ### elements of some cells each -/
def Els {α : Type} (sz : Nat) (R : α → List Value → Prop) : List α → List Value → Prop
  | [], cs => cs = []
  | x :: xs, cs => ∃ c r, cs = c ++ r ∧ c.length = sz ∧ R x c ∧ Els sz R xs r
section
variable {α : Type} {sz : Nat} {R R' : α → List Value → Prop}
theorem Els.len : ∀ {xs : List α} {cs : List Value}, Els sz R xs cs → cs.length = xs.length * sz
  | [], cs, h => by cases h; simp
  | x :: xs, cs, h => by
    obtain ⟨c, r, rfl, hc, _, hr⟩ := h
    have := Els.len hr
    rw [List.length_append, List.length_cons, Nat.add_mul, this, hc]
    omega
theorem Els.imp (h : ∀ x c, R x c → R' x c) : ∀ {xs : List α} {cs : List Value}, Els sz R xs cs → Els sz R' xs cs
  | [], _, e => e
  | _ :: _, _, ⟨c, r, e, hc, hx, hr⟩ => ⟨c, r, e, hc, h _ _ hx, Els.imp h hr⟩
theorem Els.append : ∀ {xs ys : List α} {cs ds : List Value}, Els sz R xs cs → Els sz R ys ds → Els sz R (xs ++ ys) (cs ++ ds)
  | [], _, _, _, h, k => by cases h; simpa using k
  | x :: xs, ys, cs, ds, h, k => by
    obtain ⟨c, r, rfl, hc, hx, hr⟩ := h
    exact ⟨c, r ++ ds, by simp, hc, hx, Els.append hr k⟩
theorem Els.one {x : α} {c : List Value} (hc : c.length = sz) (h : R x c) : Els sz R [x] c := ⟨c, [], by simp, hc, h, rfl⟩
theorem Els.split : ∀ {xs ys : List α} {cs : List Value}, Els sz R (xs ++ ys) cs → ∃ a b, cs = a ++ b ∧ Els sz R xs a ∧ Els sz R ys b
  | [], ys, cs, h => ⟨[], cs, rfl, rfl, h⟩
  | x :: xs, ys, cs, h => by
    obtain ⟨c, r, rfl, hc, hx, hr⟩ := h
    obtain ⟨a, b, rfl, ha, hb⟩ := Els.split hr
    exact ⟨c ++ a, b, by simp, ⟨c, a, rfl, hc, hx, ha⟩, hb⟩
theorem Els.at : ∀ {xs : List α} {cs : List Value}, Els sz R xs cs → ∀ (i : Nat) (x : α), xs[i]? = some x → ∃ c, c.length = sz ∧ R x c ∧ ∀ j u, c[j]? = some u → cs[i * sz + j]? = some u
  | [], _, _, i, x, hi => by simp at hi
  | y :: ys, cs, h, i, x, hi => by
    obtain ⟨c, r, rfl, hc, hx, hr⟩ := h
    cases i with
    | zero =>
      simp at hi
      subst hi
      refine ⟨c, hc, hx, fun j u hj => ?_⟩
      have hl := (List.getElem?_eq_some_iff.1 hj).1
      rw [Nat.zero_mul, Nat.zero_add, List.getElem?_append_left hl]
      exact hj
    | succ i =>
      obtain ⟨d, hd, hR, hat⟩ := Els.at hr i x (by simpa using hi)
      refine ⟨d, hd, hR, fun j u hj => ?_⟩
      rw [List.getElem?_append_right (by rw [hc, Nat.add_mul]; omega)]
      rw [show (i + 1) * sz + j - c.length = i * sz + j by rw [hc, Nat.add_mul]; omega]
      exact hat j u hj
theorem Els.all {Q : Value → Prop} (h : ∀ x c, R x c → ∀ u ∈ c, Q u) : ∀ {xs : List α} {cs : List Value}, Els sz R xs cs → ∀ u ∈ cs, Q u
  | [], cs, e => by cases e; simp
  | x :: xs, cs, e => by
    obtain ⟨c, r, rfl, hc, hx, hr⟩ := e
    intro u hu
    rcases List.mem_append.1 hu with hu | hu
    · exact h _ _ hx u hu
    · exact Els.all h hr u hu
/-- An element put in another's place. -/
theorem Els.set : ∀ {xs : List α} {cs : List Value}, Els sz R xs cs → ∀ (i : Nat) (y : α) (d : List Value), i < xs.length → d.length = sz → R y d → Els sz R (xs.set i y) (cs.take (i * sz) ++ d ++ cs.drop (i * sz + sz))
  | [], _, _, i, _, _, hi, _, _ => by simp at hi
  | x :: xs, cs, h, i, y, d, hi, hd, hy => by
    obtain ⟨c, r, rfl, hc, hx, hr⟩ := h
    cases i with
    | zero => exact ⟨d, r, by simp [← hc], hd, hy, hr⟩
    | succ i =>
      refine ⟨c, _, ?_, hc, hx, Els.set hr i y d (by simpa using hi) hd hy⟩
      have e1 : (i + 1) * sz = c.length + i * sz := by rw [Nat.add_mul, hc]; omega
      rw [e1, List.take_append, List.drop_append]
      simp [Nat.add_assoc]
      rw [List.take_of_length_le (by omega), List.drop_eq_nil_of_le (by omega)]
      simp
end

section
variable {α : Type} {sz : Nat} {R : α → List Value → Prop}
theorem Els.erase : ∀ {xs : List α} {cs : List Value}, Els sz R xs cs → ∀ (i : Nat), i < xs.length → Els sz R (xs.eraseIdx i) (cs.take (i * sz) ++ cs.drop ((i + 1) * sz))
  | [], _, _, i, hi => by simp at hi
  | x :: xs, cs, h, i, hi => by
    obtain ⟨c, r, rfl, hc, hx, hr⟩ := h
    cases i with
    | zero => simpa [← hc] using hr
    | succ i =>
      refine ⟨c, _, ?_, hc, hx, Els.erase hr i (by simpa using hi)⟩
      have e1 : (i + 1) * sz = c.length + i * sz := by rw [Nat.add_mul, hc]; omega
      have e2 : (i + 1 + 1) * sz = c.length + (i + 1) * sz := by rw [Nat.add_mul, hc]; omega
      rw [e2, e1, List.take_append, List.drop_append]
      simp
      rw [List.take_of_length_le (by omega), List.drop_eq_nil_of_le (by omega)]
      simp
end
theorem OC.setsC {w : World} {ty : TypeId} {sz n g off cap : Nat} {cs : List Value} {F : Nat → Prop} (h : OC w ty sz (.slice (some ⟨g, off, none⟩) n cap) n cs F) (j : Nat) (d : List Value) (hj : j + d.length ≤ cs.length) (hp : 0 < cs.length) :
    OC (w.setCells g (off + j) d) ty sz (.slice (some ⟨g, off, none⟩) n cap) n (cs.take j ++ d ++ cs.drop (j + d.length)) F := by
  obtain ⟨hcl, hm, ⟨a, ha, rfl⟩ | ⟨g', off', cap', cur, hv, hn, hb, hs, hF, hc⟩⟩ := h
  · simp at hcl; subst hcl; simp at hp
  · cases hv
    have hle : n * sz ≤ cap * sz := Nat.mul_le_mul_right _ hn
    obtain ⟨cur', h1, h2, h3⟩ := setCells_blk g ty d (off + j) w cur hb (by omega)
    refine ⟨by simp; omega, hm, .inr ⟨g, off, cap, cur', rfl, hn, h1, by omega, hF, fun k x hk => ?_⟩⟩
    rw [h3]
    by_cases hk1 : k < j
    · rw [if_neg (by omega)]
      rw [List.append_assoc, List.getElem?_append_left (by simp; omega), List.getElem?_take_of_lt hk1] at hk
      exact hc k x hk
    · by_cases hk2 : k < j + d.length
      · rw [if_pos (by omega)]
        rw [List.getElem?_append_left (by simp; omega), List.getElem?_append_right (by simp; omega)] at hk
        rw [show off + k - (off + j) = k - (cs.take j).length by simp; omega]
        exact hk
      · rw [if_neg (by omega)]
        rw [List.getElem?_append_right (by simp; omega), List.getElem?_drop] at hk
        have : j + d.length + (k - (cs.take j ++ d).length) = k := by simp; omega
        rw [this] at hk
        exact hc k x hk
/-! ### the data -/
structure Info where
  ty : Int
  time : Int
  hasPic : Bool
  pic : Int
  hasTl0 : Bool
  tl0 : Int
  tid : Int
  sync : Bool
  drop : Bool
structure Desc where
  n : Bool
  start : Bool
  part : Int
  hasPic : Bool
  long : Bool
  pic : Int
  hasTl0 : Bool
  tl0 : Int
  hasTid : Bool
  tid : Int
  sync : Bool
  hasKey : Bool
  keyIdx : Int
structure Part where
  desc : Desc
  rest : List Int
structure Fr where
  info : Info
  key : Bool
  parts : List Part
structure En where
  grant : Int
  slot : Int
  lost : Bool
  known : Bool
  tid : Int
  drop : Bool
  fr : Fr
def Info.z : Info := ⟨0, 0, false, 0, false, 0, 0, false, false⟩
def Fr.z : Fr := ⟨Info.z, false, []⟩
def Info.c (i : Info) : List Value := [.int .u8 i.ty, .int .u32 i.time, .bool i.hasPic, .int .u16 i.pic, .bool i.hasTl0, .int .u8 i.tl0, .int .u8 i.tid, .bool i.sync, .bool i.drop]
def Desc.c (d : Desc) : List Value := [.bool d.n, .bool d.start, .int .u8 d.part, .bool d.hasPic, .bool d.long, .int .u16 d.pic, .bool d.hasTl0, .int .u8 d.tl0, .bool d.hasTid, .int .u8 d.tid, .bool d.sync, .bool d.hasKey, .int .u8 d.keyIdx]
def Part.c (p : Part) (v : Value) : List Value := [.bool p.desc.n, .bool p.desc.start, .int .u8 p.desc.part, .bool p.desc.hasPic, .bool p.desc.long, .int .u16 p.desc.pic, .bool p.desc.hasTl0, .int .u8 p.desc.tl0, .bool p.desc.hasTid, .int .u8 p.desc.tid, .bool p.desc.sync, .bool p.desc.hasKey, .int .u8 p.desc.keyIdx, v]
def Fr.c (f : Fr) (v : Value) : List Value := [.int .u8 f.info.ty, .int .u32 f.info.time, .bool f.info.hasPic, .int .u16 f.info.pic, .bool f.info.hasTl0, .int .u8 f.info.tl0, .int .u8 f.info.tid, .bool f.info.sync, .bool f.info.drop, .bool f.key, v]
def En.ci (x : En) (v : Value) : List Value := [.bool x.lost, .bool x.known, .int .u8 x.tid, .bool x.drop, .int .u8 x.fr.info.ty, .int .u32 x.fr.info.time, .bool x.fr.info.hasPic, .int .u16 x.fr.info.pic, .bool x.fr.info.hasTl0, .int .u8 x.fr.info.tl0, .int .u8 x.fr.info.tid, .bool x.fr.info.sync, .bool x.fr.info.drop, .bool x.fr.key, v]
def En.c (x : En) (v : Value) : List Value := [.int .u64 x.grant, .int .i64 x.slot, .bool x.lost, .bool x.known, .int .u8 x.tid, .bool x.drop, .int .u8 x.fr.info.ty, .int .u32 x.fr.info.time, .bool x.fr.info.hasPic, .int .u16 x.fr.info.pic, .bool x.fr.info.hasTl0, .int .u8 x.fr.info.tl0, .int .u8 x.fr.info.tid, .bool x.fr.info.sync, .bool x.fr.info.drop, .bool x.fr.key, v]
theorem Part.c_len (p : Part) (v : Value) : (p.c v).length = 14 := rfl
theorem Fr.c_len (p : Fr) (v : Value) : (p.c v).length = 11 := rfl
theorem En.c_len (p : En) (v : Value) : (p.c v).length = 17 := rfl
theorem En.ci_len (p : En) (v : Value) : (p.ci v).length = 15 := rfl

def En.hd (x : En) : List Value := [.int .u64 x.grant, .int .i64 x.slot, .bool x.lost, .bool x.known, .int .u8 x.tid, .bool x.drop]
theorem En.c_fr (x : En) (v : Value) : x.c v = x.hd ++ x.fr.c v := rfl
theorem En.c_ci (x : En) (v : Value) : x.c v = [.int .u64 x.grant, .int .i64 x.slot] ++ x.ci v := rfl
theorem Part.c_desc (p : Part) (v : Value) : p.c v = p.desc.c ++ [v] := rfl
theorem Fr.c_info (f : Fr) (v : Value) : f.c v = f.info.c ++ [.bool f.key, v] := rfl
theorem sub_right {a b : List Value} {n : Nat} (hn : a.length = n) : ∀ j u, b[j]? = some u → (a ++ b)[n + j]? = some u := fun j u h => by rw [List.getElem?_append_right (by omega)]; rw [show n + j - a.length = j by omega]; exact h
theorem sub_left {a b : List Value} : ∀ j u, a[j]? = some u → (a ++ b)[0 + j]? = some u := fun j u h => by rw [Nat.zero_add, List.getElem?_append_left (List.getElem?_eq_some_iff.1 h).1]; exact h
/-- Some cells of a block known whole. -/
theorem sub_cells {w : World} {g off : Nat} {l cs : List Value} {t : TypeId} {fr : Nat × Nat} (hb : w.heap[g]? = some (.cells l.toArray t fr)) (h : ∀ j u, cs[j]? = some u → l[off + j]? = some u) : ∀ j u, cs[j]? = some u → w.cell? ⟨g, off + j, none⟩ = some u :=
  fun j u hj => by rw [cell_of_blk hb]; simpa using h j u hj
theorem all_cells {w : World} {g : Nat} {l : List Value} {t : TypeId} {fr : Nat × Nat} (hb : w.heap[g]? = some (.cells l.toArray t fr)) : ∀ j u, l[j]? = some u → w.cell? ⟨g, 0 + j, none⟩ = some u :=
  sub_cells hb fun j u h => by rwa [Nat.zero_add]
theorem En.set_fr {w : World} {g : Nat} {t : TypeId} {x : En} {v v' : Value} (b0 : w.heap[g]? = some (.cells (x.c v).toArray t (0, 0))) : (w.setCells g 6 (x.fr.c v')).heap[g]? = some (.cells (x.c v').toArray t (0, 0)) := by
  rw [blk_setCells b0 (by simp [Fr.c, En.c])]
  simp [Fr.c, En.c]
/-! ### how it lies in memory: read (R..), owned (O..) -/
def byt (l : List Int) : List Value := l.map (Value.int .u8)
theorem byt_len (l : List Int) : (byt l).length = l.length := by simp [byt]
def RBytes (w : World) (v : Value) (l : List Int) (F : Nat → Prop) : Prop := RC w 1 v l.length (byt l) F
def OBytes (w : World) (v : Value) (l : List Int) (F : Nat → Prop) : Prop := OC w 5 1 v l.length (byt l) F
def RPart (w : World) (F : Nat → Prop) (p : Part) (c : List Value) : Prop := ∃ v, c = p.c v ∧ RBytes w v p.rest F
def OPart (w : World) (F : Nat → Prop) (p : Part) (c : List Value) : Prop := ∃ v, c = p.c v ∧ OBytes w v p.rest F
def RParts (w : World) (v : Value) (l : List Part) (F : Nat → Prop) : Prop := ∃ cs, RC w 14 v l.length cs F ∧ Els 14 (RPart w F) l cs
def OParts (ty : TypeId) (w : World) (v : Value) (l : List Part) (F : Nat → Prop) : Prop := ∃ cs, OC w ty 14 v l.length cs F ∧ Els 14 (OPart w F) l cs
def REn (w : World) (F : Nat → Prop) (x : En) (c : List Value) : Prop := ∃ v, c = x.c v ∧ RParts w v x.fr.parts F
def REns (w : World) (v : Value) (l : List En) (F : Nat → Prop) : Prop := ∃ cs, RC w 17 v l.length cs F ∧ Els 17 (REn w F) l cs
/-- Beside the row's own block. -/
def Off (v : Value) (F : Nat → Prop) : Nat → Prop := fun k => F k ∧ some k ≠ v.ownBlock
def OEns (ty : TypeId) (w : World) (v : Value) (l : List En) (F : Nat → Prop) : Prop := ∃ cs, OC w ty 17 v l.length cs F ∧ Els 17 (REn w (Off v F)) l cs

section
variable {w w1 : World} {v : Value} {F F' S : Nat → Prop} {ty : TypeId} {n : Nat} {cs : List Value}
theorem RBytes.keep {l : List Int} (h : RBytes w v l F) (hu : Upd S w w1) (hd : ∀ k, k < w.heap.size → F k → ¬ S k) : RBytes w1 v l F := RC.keep h hu hd
theorem RBytes.mono {l : List Int} (h : RBytes w v l F) (hf : ∀ k, k < w.heap.size → F k → F' k) : RBytes w v l F' := RC.mono h hf
theorem OBytes.keep {l : List Int} (h : OBytes w v l F) (hu : Upd S w w1) (hd : ∀ k, k < w.heap.size → F k → ¬ S k) : OBytes w1 v l F := OC.keep h hu hd
theorem OBytes.mono {l : List Int} (h : OBytes w v l F) (hf : ∀ k, k < w.heap.size → F k → F' k) : OBytes w v l F' := OC.mono h hf
theorem OBytes.r {l : List Int} (h : OBytes w v l F) : RBytes w v l F := OC.rc h
theorem RPart.keep {p : Part} {c : List Value} (h : RPart w F p c) (hu : Upd S w w1) (hd : ∀ k, k < w.heap.size → F k → ¬ S k) : RPart w1 F p c := by obtain ⟨v, e, h⟩ := h; exact ⟨v, e, h.keep hu hd⟩
theorem OPart.keep {p : Part} {c : List Value} (h : OPart w F p c) (hu : Upd S w w1) (hd : ∀ k, k < w.heap.size → F k → ¬ S k) : OPart w1 F p c := by obtain ⟨v, e, h⟩ := h; exact ⟨v, e, h.keep hu hd⟩
theorem RPart.mono {p : Part} {c : List Value} (h : RPart w F p c) (hf : ∀ k, k < w.heap.size → F k → F' k) : RPart w F' p c := by obtain ⟨v, e, h⟩ := h; exact ⟨v, e, h.mono hf⟩
theorem OPart.mono {p : Part} {c : List Value} (h : OPart w F p c) (hf : ∀ k, k < w.heap.size → F k → F' k) : OPart w F' p c := by obtain ⟨v, e, h⟩ := h; exact ⟨v, e, h.mono hf⟩
theorem RParts.keep {l : List Part} (h : RParts w v l F) (hu : Upd S w w1) (hd : ∀ k, k < w.heap.size → F k → ¬ S k) : RParts w1 v l F := by
  obtain ⟨cs, h1, h2⟩ := h
  exact ⟨cs, h1.keep hu hd, h2.imp fun _ _ h => h.keep hu hd⟩
theorem OParts.keep {l : List Part} (h : OParts ty w v l F) (hu : Upd S w w1) (hd : ∀ k, k < w.heap.size → F k → ¬ S k) : OParts ty w1 v l F := by
  obtain ⟨cs, h1, h2⟩ := h
  exact ⟨cs, h1.keep hu hd, h2.imp fun _ _ h => h.keep hu hd⟩
theorem RParts.mono {l : List Part} (h : RParts w v l F) (hf : ∀ k, k < w.heap.size → F k → F' k) : RParts w v l F' := by
  obtain ⟨cs, h1, h2⟩ := h
  exact ⟨cs, h1.mono hf, h2.imp fun _ _ h => h.mono hf⟩
theorem OParts.mono {l : List Part} (h : OParts ty w v l F) (hf : ∀ k, k < w.heap.size → F k → F' k) : OParts ty w v l F' := by
  obtain ⟨cs, h1, h2⟩ := h
  exact ⟨cs, h1.mono hf, h2.imp fun _ _ h => h.mono hf⟩
theorem OParts.r {l : List Part} (h : OParts ty w v l F) : RParts w v l F := by
  obtain ⟨cs, h1, h2⟩ := h
  exact ⟨cs, h1.rc, h2.imp fun _ _ ⟨u, e, h⟩ => ⟨u, e, h.r⟩⟩
theorem RParts.bound {l : List Part} (h : RParts w v l F) : RParts w v l (fun k => F k ∧ k < w.heap.size) := h.mono (fun k hk hF => ⟨hF, hk⟩)
theorem REn.keep {x : En} {c : List Value} (h : REn w F x c) (hu : Upd S w w1) (hd : ∀ k, k < w.heap.size → F k → ¬ S k) : REn w1 F x c := by obtain ⟨v, e, h⟩ := h; exact ⟨v, e, h.keep hu hd⟩
theorem REn.mono {x : En} {c : List Value} (h : REn w F x c) (hf : ∀ k, k < w.heap.size → F k → F' k) : REn w F' x c := by obtain ⟨v, e, h⟩ := h; exact ⟨v, e, h.mono hf⟩
theorem REns.keep {l : List En} (h : REns w v l F) (hu : Upd S w w1) (hd : ∀ k, k < w.heap.size → F k → ¬ S k) : REns w1 v l F := by
  obtain ⟨cs, h1, h2⟩ := h
  exact ⟨cs, h1.keep hu hd, h2.imp fun _ _ h => h.keep hu hd⟩
theorem OEns.keep {l : List En} (h : OEns ty w v l F) (hu : Upd S w w1) (hd : ∀ k, k < w.heap.size → F k → ¬ S k) : OEns ty w1 v l F := by
  obtain ⟨cs, h1, h2⟩ := h
  exact ⟨cs, h1.keep hu hd, h2.imp fun _ _ h => h.keep hu (fun k hk hf => hd k hk hf.1)⟩
theorem REns.mono {l : List En} (h : REns w v l F) (hf : ∀ k, k < w.heap.size → F k → F' k) : REns w v l F' := by
  obtain ⟨cs, h1, h2⟩ := h
  exact ⟨cs, h1.mono hf, h2.imp fun _ _ h => h.mono hf⟩
theorem OEns.mono {l : List En} (h : OEns ty w v l F) (hf : ∀ k, k < w.heap.size → F k → F' k) : OEns ty w v l F' := by
  obtain ⟨cs, h1, h2⟩ := h
  exact ⟨cs, h1.mono hf, h2.imp fun _ _ h => h.mono (fun k hk h => ⟨hf k hk h.1, h.2⟩)⟩
theorem OEns.r {l : List En} (h : OEns ty w v l F) : REns w v l F := by
  obtain ⟨cs, h1, h2⟩ := h
  exact ⟨cs, h1.rc, h2.imp fun _ _ h => h.mono (fun _ _ h => h.1)⟩
theorem OEns.bound {l : List En} (h : OEns ty w v l F) : OEns ty w v l (fun k => F k ∧ k < w.heap.size) := h.mono (fun k hk hF => ⟨hF, hk⟩)
theorem RC.one (h : RC w 1 v n cs F) : v.oneCell' = true := by obtain ⟨a, cap, rfl, _⟩ := h.slice; rfl
theorem OC.one {sz : Nat} (h : OC w ty sz v n cs F) : v.oneCell' = true := by obtain ⟨a, cap, rfl, _⟩ := h.slice; rfl
theorem byt_one (l : List Int) : ∀ u ∈ byt l, u.oneCell' = true := by intro u hu; simp [byt] at hu; obtain ⟨a, _, rfl⟩ := hu; rfl
theorem RPart.one {p : Part} {c : List Value} (h : RPart w F p c) : ∀ u ∈ c, u.oneCell' = true := by
  obtain ⟨v, rfl, h⟩ := h
  obtain ⟨a, cap, rfl, _⟩ := RC.slice h
  intro u hu
  simp [Part.c] at hu
  rcases hu with rfl | rfl | rfl | rfl | rfl | rfl | rfl | rfl | rfl | rfl | rfl | rfl | rfl | rfl <;> rfl
theorem REn.one {x : En} {c : List Value} (h : REn w F x c) : ∀ u ∈ c, u.oneCell' = true := by
  obtain ⟨v, rfl, cs, h, _⟩ := h
  obtain ⟨a, cap, rfl, _⟩ := RC.slice h
  intro u hu
  simp [En.c] at hu
  rcases hu with rfl | rfl | rfl | rfl | rfl | rfl | rfl | rfl | rfl | rfl | rfl | rfl | rfl | rfl | rfl | rfl | rfl <;> rfl
theorem OParts.slice {l : List Part} (h : OParts ty w v l F) : ∃ a cap, v = .slice a l.length cap := by obtain ⟨cs, h, _⟩ := h; obtain ⟨a, cap, e, _⟩ := h.slice; exact ⟨a, cap, e⟩
theorem RParts.slice {l : List Part} (h : RParts w v l F) : ∃ a cap, v = .slice a l.length cap := by obtain ⟨cs, h, _⟩ := h; obtain ⟨a, cap, e, _⟩ := RC.slice h; exact ⟨a, cap, e⟩
theorem OEns.slice {l : List En} (h : OEns ty w v l F) : ∃ a cap, v = .slice a l.length cap := by obtain ⟨cs, h, _⟩ := h; obtain ⟨a, cap, e, _⟩ := h.slice; exact ⟨a, cap, e⟩
theorem REns.slice {l : List En} (h : REns w v l F) : ∃ a cap, v = .slice a l.length cap := by obtain ⟨cs, h, _⟩ := h; obtain ⟨a, cap, e, _⟩ := RC.slice h; exact ⟨a, cap, e⟩
theorem OBytes.slice {l : List Int} (h : OBytes w v l F) : ∃ a cap, v = .slice a l.length cap := by obtain ⟨a, cap, e, _⟩ := OC.slice h; exact ⟨a, cap, e⟩
theorem RBytes.slice {l : List Int} (h : RBytes w v l F) : ∃ a cap, v = .slice a l.length cap := by obtain ⟨a, cap, e, _⟩ := RC.slice h; exact ⟨a, cap, e⟩
theorem RParts.one {x : En} (h : RParts w v x.fr.parts F) : ∀ u ∈ x.c v, u.oneCell' = true := (show REn w F x (x.c v) from ⟨_, rfl, h⟩).one
theorem RParts.oneF {f : Fr} (h : RParts w v f.parts F) : ∀ u ∈ f.c v, u.oneCell' = true := by
  obtain ⟨a, cap, rfl⟩ := h.slice
  intro u hu
  simp [Fr.c] at hu
  rcases hu with rfl | rfl | rfl | rfl | rfl | rfl | rfl | rfl | rfl | rfl | rfl <;> rfl
theorem RParts.nil (w : World) (a : Option Addr) (F : Nat → Prop) : RParts w (.slice a 0 0) [] F := ⟨[], ⟨by simp, by simp [maxLen], a, 0, rfl, Nat.le_refl _, .inl rfl⟩, rfl⟩
end

/-! ### an element of entries -/
theorem OEns.at {w : World} {v : Value} {l : List En} {F : Nat → Prop} {ty : TypeId} (h : OEns ty w v l F) {i : Nat} {x : En} (hi : l[i]? = some x) :
    ∃ g off cap pv cur, v = .slice (some ⟨g, off, none⟩) l.length cap ∧ l.length ≤ cap ∧ w.heap[g]? = some (.cells cur ty (0, 0)) ∧ off + cap * 17 ≤ cur.size ∧ F g ∧ RParts w pv x.fr.parts (Off v F) ∧ ∀ j u, (x.c pv)[j]? = some u → w.cell? ⟨g, off + i * 17 + j, none⟩ = some u := by
  obtain ⟨cs, hO, hE⟩ := h
  have hlt := (List.getElem?_eq_some_iff.1 hi).1
  obtain ⟨g, off, cap, cur, hv, hn, hb, hs, hF, hc⟩ := hO.at (by omega)
  obtain ⟨c, hcl, ⟨pv, rfl, hp⟩, hat⟩ := hE.at i x hi
  exact ⟨g, off, cap, pv, cur, hv, hn, hb, hs, hF, hp, fun j u hj => by rw [cell_of_blk hb, Nat.add_assoc]; exact hc _ _ (hat j u hj)⟩
theorem REns.at {w : World} {v : Value} {l : List En} {F : Nat → Prop} (h : REns w v l F) {i : Nat} {x : En} (hi : l[i]? = some x) :
    ∃ g off cap pv, v = .slice (some ⟨g, off, none⟩) l.length cap ∧ RParts w pv x.fr.parts F ∧ ∀ j u, (x.c pv)[j]? = some u → w.cell? ⟨g, off + i * 17 + j, none⟩ = some u := by
  obtain ⟨cs, hO, hE⟩ := h
  have hlt := (List.getElem?_eq_some_iff.1 hi).1
  obtain ⟨g, off, cap, hv, hn, hF, hl, hc⟩ := RC.at hO (by omega)
  obtain ⟨c, hcl, ⟨pv, rfl, hp⟩, hat⟩ := hE.at i x hi
  exact ⟨g, off, cap, pv, hv, hp, fun j u hj => by rw [Nat.add_assoc]; exact hc _ _ (hat j u hj)⟩

/-! ### a queue -/
structure Q where
  most : Int
  careful : Bool
  begun : Bool
  es : List En
def Small (x : En) : Prop := Fits x.fr.parts.length ∧ ∀ p ∈ x.fr.parts, Fits p.rest.length
def QRep (w : World) (b : Nat) (s : Q) (F : Nat → Prop) : Prop :=
  F b ∧ ∃ v, w.heap[b]? = some (.cells #[.int .i64 s.most, .bool s.careful, .bool s.begun, v] 108 (0, 0)) ∧ OEns 45 w v s.es (fun k => F k ∧ k ≠ b)
section
variable {w w1 : World} {b : Nat} {s : Q} {F F' S : Nat → Prop}
theorem QRep.keep (h : QRep w b s F) (hu : Upd S w w1) (hd : ∀ k, k < w.heap.size → F k → ¬ S k) : QRep w1 b s F := by
  obtain ⟨hF, v, hb, hO⟩ := h
  exact ⟨hF, v, hu.blk hb (hd b (blk_lt hb) hF), hO.keep hu (fun k hk hf => hd k hk hf.1)⟩
theorem QRep.mono (h : QRep w b s F) (hf : ∀ k, k < w.heap.size → F k → F' k) : QRep w b s F' := by
  obtain ⟨hF, v, hb, hO⟩ := h
  exact ⟨hf b (blk_lt hb) hF, v, hb, hO.mono (fun k hk h => ⟨hf k hk h.1, h.2⟩)⟩
theorem QRep.bound (h : QRep w b s F) : QRep w b s (fun k => F k ∧ k < w.heap.size) := h.mono (fun k hk hF => ⟨hF, hk⟩)
end
/-! ### what the program makes of entries -/
def freshB (s : Q) (i : Nat) (x : En) : Bool := !x.lost && (decide (0 < i) || !s.begun)
def joinsB (x y : En) : Bool := x.lost && y.lost && x.grant == y.grant && x.slot == y.slot
def noteE (x : En) : En := ⟨x.grant, x.slot, true, true, x.fr.info.tid, x.fr.info.drop, Fr.z⟩
def mn (a b : Int) : Int := if b < a then b else a
def noteJ (x : En) (kn : Bool) (td : Int) (dr : Bool) : En := ⟨x.grant, x.slot, true, kn, td, dr, Fr.z⟩
def joinedE (x y : En) : En := if x.known && y.known then noteJ x true (mn x.tid y.tid) (x.drop && y.drop) else noteJ x false 0 false
def joinAt (l : List En) : Nat → List En
  | 0 => l
  | k + 1 => match l[k]?, l[k + 1]? with
    | some x, some y => if joinsB x y then (l.set k (joinedE x y)).eraseIdx (k + 1) else l
    | _, _ => l
def settleL (l : List En) (at_ : Nat) : List En := joinAt (joinAt l (at_ + 1)) at_
theorem joinAt_eq (l : List En) (k : Nat) (x y : En) (h1 : l[k]? = some x) (h2 : l[k + 1]? = some y) : joinAt l (k + 1) = if joinsB x y then (l.set k (joinedE x y)).eraseIdx (k + 1) else l := by
  simp only [joinAt, h1, h2]
theorem joinAt_ge (l : List En) (k : Nat) (h : l.length ≤ k) : joinAt l k = l := by
  cases k with
  | zero => rfl
  | succ k =>
    have h2 : l[k + 1]? = none := List.getElem?_eq_none h
    simp only [joinAt, h2]
    cases l[k]? <;> rfl
theorem joinAt_length (l : List En) (k : Nat) : (joinAt l k).length = l.length ∨ ((joinAt l k).length + 1 = l.length ∧ 0 < k ∧ k < l.length) := by
  rcases Nat.lt_or_ge k l.length with hk | hk
  · cases k with
    | zero => exact .inl rfl
    | succ k =>
      rw [joinAt_eq l k l[k] l[k + 1] (List.getElem?_eq_getElem (by omega)) (List.getElem?_eq_getElem hk)]
      split
      · refine .inr ⟨?_, by omega, hk⟩
        rw [List.length_eraseIdx_of_lt (by simpa using hk), List.length_set]
        omega
      · exact .inl rfl
  · exact .inl (by rw [joinAt_ge l k hk])
theorem OC.only {w : World} {ty : TypeId} {sz n g off cap : Nat} {cs : List Value} {F : Nat → Prop} (h : OC w ty sz (.slice (some ⟨g, off, none⟩) n cap) n cs F) : OC w ty sz (.slice (some ⟨g, off, none⟩) n cap) n cs (Only g) := by
  obtain ⟨h1, hm, h2 | ⟨g', off', cap', cur, hv, hn, hb, hs, hF, hc⟩⟩ := h
  · exact ⟨h1, hm, .inl h2⟩
  · cases hv
    exact ⟨h1, hm, .inr ⟨g, off, cap, cur, rfl, hn, hb, hs, rfl, hc⟩⟩
theorem joinedE_parts (x y : En) : (joinedE x y).fr.parts = [] := by unfold joinedE; split <;> rfl
theorem noteJ_one (x : En) (kn : Bool) (td : Int) (dr : Bool) : ∀ u ∈ (noteJ x kn td dr).c (.slice none 0 0), u.oneCell' = true := (RParts.nil (default : World) none No).one (x := noteJ x kn td dr)
theorem joinedE_one (x y : En) : ∀ u ∈ (joinedE x y).c (.slice none 0 0), u.oneCell' = true := by unfold joinedE; split <;> exact noteJ_one _ _ _ _
/-- One entry is written over by one without parts. -/
theorem put_mem {wr w2 : World} {L : List En} {g off cap m : Nat} {j : En} {F : Nat → Prop} (h : OEns 45 wr (.slice (some ⟨g, off, none⟩) L.length cap) L F) (hm : m < L.length) (hj : j.fr.parts = []) (hj1 : ∀ u ∈ j.c (.slice none 0 0), u.oneCell' = true) (hu : Upd No wr w2) :
    ∃ cs3, OC (w2.setCells g (off + m * 17) (j.c (.slice none 0 0))) 45 17 (.slice (some ⟨g, off, none⟩) L.length cap) L.length cs3 F ∧ (∀ u ∈ cs3, u.oneCell' = true) ∧
      Els 17 (REn (w2.setCells g (off + m * 17) (j.c (.slice none 0 0))) (Off (.slice (some ⟨g, off, none⟩) L.length cap) F)) (L.set m j) cs3 := by
  obtain ⟨cs, hO, hE⟩ := h
  have hl := hE.len
  have hE2 : Els 17 (REn (w2.setCells g (off + m * 17) (j.c (.slice none 0 0))) (Off (.slice (some ⟨g, off, none⟩) L.length cap) F)) L cs := by
    refine hE.imp fun _ _ h => (h.keep hu (fun _ _ _ f => f)).keep (Upd.setsO w2 g _ _) (fun k _ hk e => ?_)
    have : k = g := e
    subst this
    exact hk.2 rfl
  have hE3 := hE2.set m j (j.c (.slice none 0 0)) hm rfl ⟨_, rfl, by rw [hj]; exact RParts.nil _ _ _⟩
  refine ⟨_, (hO.keep hu (fun _ _ _ f => f)).setsC (m * 17) (j.c (.slice none 0 0)) ?_ ?_, hE3.all fun _ _ h => h.one, hE3⟩
  · rw [hl, En.c_len]; omega
  · omega
/-- One entry is gone. -/
theorem del_mem {w3 w4 : World} {b g off cap m : Nat} {L : List En} {cs3 : List Value} {r : Value} {F : Nat → Prop} {s : Q} {q3 : Value} (hb : w4.heap[b]? = some (.cells #[.int .i64 s.most, .bool s.careful, .bool s.begun, q3] 108 (0, 0))) (hF : F b) (hFg : F g) (hgb : g ≠ b)
    (hE : Els 17 (REn w3 (Off (.slice (some ⟨g, off, none⟩) L.length cap) (fun k => F k ∧ k ≠ b))) L cs3) (hm : m + 1 < L.length)
    (ho : OC w4 45 17 r (L.length - 1) (cs3.take ((m + 1) * 17) ++ cs3.drop ((m + 1 + 1) * 17)) (Only g)) (hu : Upd (Only g) w3 w4) : QRep (w4.setCell ⟨b, 3, none⟩ r) b { s with es := L.eraseIdx (m + 1) } F := by
  have hs := Upd.set1 w4 b 3 r
  obtain ⟨g', off', cap', cur, rfl, hn, hb', hs', hFg', hc⟩ := ho.at (by omega)
  obtain rfl : g' = g := hFg'
  have hlen : (L.eraseIdx (m + 1)).length = L.length - 1 := List.length_eraseIdx_of_lt hm
  refine ⟨hF, _, by rw [blk_setCell hb]; rfl, cs3.take ((m + 1) * 17) ++ cs3.drop ((m + 1 + 1) * 17), ?_, ?_⟩
  · show OC _ 45 17 _ (L.eraseIdx (m + 1)).length _ _
    rw [hlen]
    exact (ho.keep hs (fun k _ hk e => by have h1 : k = g' := hk; have h2 : k = b := e; omega)).mono (fun k _ hk => by have h1 : k = g' := hk; subst h1; exact ⟨hFg, hgb⟩)
  · refine (hE.erase (m + 1) hm).imp fun _ _ h => ((h.keep hu (fun k _ hk e => ?_)).keep hs (fun k _ hk e => hk.1.2 e)).mono (fun k _ hk => ⟨hk.1, hk.2⟩)
    have : k = g' := e
    subst this
    exact hk.2 rfl
end Go.Kb
