/- Contract of layer 19: waits. -/
import Derived.Test.YtaakmkkgnboedaaM
namespace Go.Proofs.Ytaakmkkgnboedaa
open Go Go.RowKit Go.Kb
theorem info3 : (Try.prog.info? 3).map (fun i => (i.zero, i.size, i.bytes)) = some (some (.int .i64 0), 1, 8) := by kernel_rfl
def ints (l : List Int) : List Value := l.map (Value.int .i64)
theorem ints_len (l : List Int) : (ints l).length = l.length := by simp [ints]
def waitE (x : En) : Int := if x.lost then -1 else x.fr.info.pic
def I47 (w : World) (l : List En) (v : Value) (wr : World) : Prop := OC wr 3 1 v l.length (ints (l.map waitE)) (From w.heap.size) ∧ Upd No w wr
theorem I47.step {w wr w1 w2 : World} {l : List En} {v v' : Value} {x : En} {p : Int} (h : I47 w l v wr) (hw : waitE x = p) (hu : Upd No wr w1)
    (ho : OC w2 3 1 v' (l.length + 1) (ints (l.map waitE) ++ [.int .i64 p]) (fun k => ((From w.heap.size k ∧ k < wr.heap.size) ∧ some k = v.ownBlock) ∨ w1.heap.size ≤ k)) (hu2 : Upd (fun k => (From w.heap.size k ∧ k < wr.heap.size) ∧ some k = v.ownBlock) w1 w2) : I47 w (l ++ [x]) v' w2 := by
  refine ⟨?_, (h.2.then0 hu).trans hu2 (fun k hk e => absurd hk (Nat.not_lt.2 e.1.1))⟩
  rw [List.length_append, List.map_append]
  have e : ints (l.map waitE ++ [x].map waitE) = ints (l.map waitE) ++ [.int .i64 p] := by subst hw; simp [ints]
  rw [e]
  exact ho.mono (fun k _ hk => hk.elim (fun h => h.1.1) (fun h' => Nat.le_trans (Nat.le_trans h.2.size hu.size) h'))
set_option maxRecDepth 100000 in
set_option maxHeartbeats 800000 in
theorem c47 (w : World) (b : Nat) (s : Q) (F : Nat → Prop) (h : QRep w b s F) (hf : Fits s.es.length) (hsm : ∀ x ∈ s.es, Small x) (hpic : ∀ x ∈ s.es, 0 ≤ x.fr.info.pic ∧ x.fr.info.pic < 65536) :
    Calls Try.prog 47 #[.pointer (some ⟨b, 0, none⟩)] w (Gives fun r w' => OC w' 3 1 r s.es.length (ints (s.es.map waitE)) (From w.heap.size) ∧ Upd No w w') := by
  have hmax : s.es.length ≤ 60000 := hf
  have HQ := Lib.hid h
  have HS := Lib.hid hsm
  have HP := Lib.hid hpic
  have HF := Lib.hid hf
  clear h hsm hpic hf
  go_enter Try.func47, Try.ntmps47
  go_wp2_with (go_at_call 29; refine (c29 _ b s F HQ.out HF.out HS.out).mono ?_; rintro e w1 ⟨r, rfl, ho, hu⟩; obtain ⟨a1, cap1, rfl⟩ := ho.slice; have HO := Lib.hid ho; have HU := Lib.hid hu; clear ho hu)
  go_loopw [3, 5] (fun n i wr => ∃ k : Nat, k ≤ s.es.length ∧ i = .int .i64 k ∧ Hid (I47 w1 (s.es.take k) n wr)) (fun _ i _ => s.es.length - (intOf i).toNat)
  case atStart => exact ⟨0, Nat.zero_le _, rfl, Lib.hid ⟨OC.nil _ _ _ _ _, Upd.refl _ _⟩⟩
  case round =>
    obtain ⟨k, hk, rfl, hI⟩ := hrel
    by_cases hlt : k < s.es.length
    · obtain ⟨x, hx⟩ : ∃ x, s.es[k]? = some x := ⟨_, List.getElem?_eq_getElem hlt⟩
      obtain ⟨g, off, cap, pv, cur, he, hcap, hg, hs, hFg, hp, hc⟩ := (HO.out.keep hI.out.2 (fun _ _ _ f => f)).at hx
      injection he with he _ he3
      subst he; subst he3
      have hlt' : (k : Int) < s.es.length := by omega
      have k2 := hc 2 _ rfl
      have k9 := hc 9 _ rfl
      obtain ⟨p1, p2⟩ := HP.out x (List.mem_of_getElem? hx)
      have HT : Hid (s.es.take (k + 1) = s.es.take k ++ [x]) := Lib.hid (by rw [List.take_add_one, hx]; rfl)
      have hcl : (s.es.take k).length = k := by rw [List.length_take, Nat.min_eq_left hk]
      have hm1 : (s.es.take k).length + 1 ≤ maxLen := by unfold maxLen; omega
      have hm2 : ((s.es.take k).length + 1) * 8 ≤ 140737488355328 := by omega
      clear hc hp hg hs hx
      cases hl : x.lost
      all_goals
        rw [hl] at k2
        go_wp2_with (first
          | (refine wpList_at (.call { callee := .builtin .append, args := #[.tmp 20, .tmp 21], argTypes := #[101, 101] }) rfl ?_; refine wpList_append_oc rfl (.tmp 20) (.tmp 21) 101 rfl Try.underlying101 info3 rfl (by decide) rfl rfl (hI.out.1.own.keep ((Upd.refl No wr).alloc _) (fun _ _ _ f => f)) (RC.new wr 1 [.int .i64 (-1)] 3 1 rfl (by decide)) (by simp [Value.oneCell']) hm1 hm2 ?_; intro v4 w4 h4 u4; have I4 := Lib.hid (hI.out.step (x := x) (p := -1) (by unfold waitE; rw [hl]; rfl) ((Upd.refl No wr).alloc _) h4 u4); clear h4 u4)
          | (refine wpList_at (.call { callee := .builtin .append, args := #[.tmp 23, .tmp 33], argTypes := #[101, 101] }) rfl ?_; refine wpList_append_oc rfl (.tmp 23) (.tmp 33) 101 rfl Try.underlying101 info3 rfl (by decide) rfl rfl (hI.out.1.own.keep ((Upd.refl No wr).alloc _) (fun _ _ _ f => f)) (RC.new wr 1 [.int .i64 x.fr.info.pic] 3 1 rfl (by decide)) (by simp [Value.oneCell']) hm1 hm2 ?_; intro v4 w4 h4 u4; have I4 := Lib.hid (hI.out.step (x := x) (p := x.fr.info.pic) (by unfold waitE; rw [hl]; rfl) ((Upd.refl No wr).alloc _) h4 u4); clear h4 u4))
        exact ⟨⟨k + 1, by omega, by go_num, by rw [HT.out]; exact I4⟩, by simp [intOf]; omega⟩
    · obtain rfl : k = s.es.length := by omega
      obtain ⟨h1, h2⟩ := hI.out
      rw [List.take_length] at h1
      obtain ⟨a2, c2, rfl, -⟩ := h1.slice
      have H1 := Lib.hid h1
      have H2 := Lib.hid h2
      clear h1 h2
      go_wp2
      go_ret
      exact Gives.mk ⟨H1.out.mono (fun k _ hk => Nat.le_trans HU.out.size hk), HU.out.then0 H2.out⟩
end Go.Proofs.Ytaakmkkgnboedaa
