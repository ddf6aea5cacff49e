/- Contracts of layer 19: made, begun, without a queue. -/
import Derived.Test.YtaakmkkgnboedaaI
namespace Go.Proofs.Ytaakmkkgnboedaa
open Go Go.RowKit Go.Kb
set_option maxRecDepth 100000 in
set_option maxHeartbeats 400000 in
theorem c10 (n : Int) (c : Bool) (hn : 1 ≤ n ∧ n ≤ 256) (w : World) :
    Calls Try.prog 10 #[.int .i64 n, .bool c] w (Gives fun r w' => Upd No w w' ∧ ∃ b, r = .tuple #[.pointer (some ⟨b, 0, none⟩), .int .i64 0] ∧ QRep w' b ⟨n, c, false, []⟩ (From w.heap.size)) := by
  obtain ⟨h1, h2⟩ := hn
  go_enter Try.func10, Try.ntmps10
  go_wp2_with (go_at_call 48; refine (c48 n _).mono ?_; rintro e w1 ⟨rfl, u⟩; simp only [h1, h2, decide_true, Bool.and_true]; have U := Lib.hid (((Upd.refl No w).alloc (.cells #[.int .i64 n] 106)).then0 u); have k0 := cell_of_blk (u.blk (blk_new w (.cells #[.int .i64 n] 106)) (fun f => f)) 0; clear u)
  refine bodyPost_ret (v := .tuple #[.pointer (some ⟨w1.heap.size, 0, none⟩), .int .i64 0]) (by simp [results, Try.results10, go_sem]) rfl (Gives.mk ⟨U.out.alloc _, w1.heap.size, rfl, U.out.size, _, blk_new _ _, [], OC.nil _ _ _ _ _, rfl⟩)
set_option maxRecDepth 100000 in
set_option maxHeartbeats 400000 in
theorem c10no (n : Int) (c : Bool) (hn : ¬ (1 ≤ n ∧ n ≤ 256)) (w : World) :
    Calls Try.prog 10 #[.int .i64 n, .bool c] w (Gives fun r w' => Upd No w w' ∧ r = .tuple #[.pointer none, .int .i64 2]) := by
  have hd : (decide (1 ≤ n) && decide (n ≤ 256)) = false := by simpa using hn
  clear hn
  go_enter Try.func10, Try.ntmps10
  go_wp2_with (go_at_call 48; refine (c48 n _).mono ?_; rintro e w1 ⟨rfl, u⟩; simp only [hd]; have U := Lib.hid (((Upd.refl No w).alloc (.cells #[.int .i64 n] 106)).then0 u); clear u)
  refine bodyPost_ret (v := .tuple #[.pointer none, .int .i64 2]) (by simp [results, Try.results10, go_sem]) rfl (Gives.mk ⟨U.out, rfl⟩)
set_option maxRecDepth 100000 in
set_option maxHeartbeats 400000 in
theorem c14 (w : World) (b : Nat) (s : Q) (F : Nat → Prop) (h : QRep w b s F) (hf : Fits s.es.length) (x : En) (hx : s.es[0]? = some x) :
    Calls Try.prog 14 #[.pointer (some ⟨b, 0, none⟩)] w (Gives fun r w' => r = .bool (freshB s 0 x) ∧ QRep w' b { s with begun := s.begun || freshB s 0 x } F ∧ Upd F w w') := by
  have HQ := Lib.hid h
  obtain ⟨hF, v, hb, hO⟩ := HQ.out
  have hl : 0 < s.es.length := (List.getElem?_eq_some_iff.1 hx).1
  obtain ⟨a0, cap0, rfl⟩ := hO.slice
  obtain ⟨kb, kbf⟩ := blk_walk hb
  have hz : ((s.es.length : Int) == 0) = false := beq_eq_false_iff_ne.2 (by omega)
  have hz2 : ¬ ((s.es.length : Int) = 0) := by omega
  have HO := Lib.hid hO
  have HX := Lib.hid hx
  have HF := Lib.hid hf
  have HB := Lib.hid hb
  clear hO hb hf hx h
  cases hfr : freshB s 0 x
  all_goals
    go_enter Try.func14, Try.ntmps14
    go_wp2_with (go_at_call 50; refine (c50 _ _ _ _ HQ.out 0 x HX.out HF.out).mono ?_; rintro e w1 ⟨rfl, rfl⟩; simp only [hfr])
    go_ret
  · exact Gives.mk ⟨rfl, by simpa using HQ.out, Upd.refl _ _⟩
  · refine Gives.mk ⟨rfl, ?_, ((Upd.refl F w).setCell (p := ⟨b, 2, none⟩) (fun _ => hF) _)⟩
    exact ⟨hF, _, by rw [blk_setCell HB.out]; simp, HO.out.keep (Upd.set1 _ _ _ _) (fun k _ hk e => hk.2 e)⟩
/-- No queue, or one without entries. -/
theorem c14e (w : World) (b : Nat) (s : Q) (F : Nat → Prop) (h : QRep w b s F) (hx : s.es = []) :
    Calls Try.prog 14 #[.pointer (some ⟨b, 0, none⟩)] w fun e w' => e = .returned (.bool false) ∧ w = w' := by
  obtain ⟨hF, v, hb, hO⟩ := h
  obtain ⟨a0, cap0, rfl⟩ := hO.slice
  obtain ⟨kb, kbf⟩ := blk_walk hb
  rw [hx] at kb
  clear hO hb hx
  go_enter Try.func14, Try.ntmps14
  go_wp2
  go_ret
  exact ⟨rfl, rfl⟩
theorem c14n (w : World) : Calls Try.prog 14 #[.pointer none] w fun e w' => e = .returned (.bool false) ∧ w = w' := by
  go_enter Try.func14, Try.ntmps14
  go_wp2
  go_ret
  exact ⟨rfl, rfl⟩
theorem c24 (w : World) (b : Nat) (s : Q) (F : Nat → Prop) (h : QRep w b s F) :
    Calls Try.prog 24 #[.pointer (some ⟨b, 0, none⟩)] w fun e w' => e = .returned (.bool s.begun) ∧ w = w' := by
  obtain ⟨hF, v, hb, hO⟩ := h
  obtain ⟨kb, kbf⟩ := blk_walk hb
  clear hO hb
  go_enter Try.func24, Try.ntmps24
  go_wp2
  go_ret
  exact ⟨rfl, rfl⟩
theorem c24n (w : World) : Calls Try.prog 24 #[.pointer none] w fun e w' => e = .returned (.bool false) ∧ w = w' := by
  go_enter Try.func24, Try.ntmps24
  go_wp2
  go_ret
  exact ⟨rfl, rfl⟩
theorem c25n (w : World) : Calls Try.prog 25 #[.pointer none] w fun e w' => e = .returned (.int .i64 0) ∧ w = w' := by
  go_enter Try.func25, Try.ntmps25
  go_wp2
  go_ret
  exact ⟨rfl, rfl⟩
theorem c27n (g : Int) (k : Bool) (w : World) : Calls Try.prog 27 #[.pointer none, .int .u64 g, .bool k] w fun e w' => e = .returned (.bool false) ∧ w = w' := by
  go_enter Try.func27, Try.ntmps27
  go_wp2
  go_ret
  exact ⟨rfl, rfl⟩
theorem c29n (w : World) : Calls Try.prog 29 #[.pointer none] w fun e w' => e = .returned (.slice none 0 0) ∧ w = w' := by
  go_enter Try.func29, Try.ntmps29
  go_wp2
  go_ret
  exact ⟨rfl, rfl⟩
theorem c22n (v : Value) (w : World) : Calls Try.prog 22 #[.pointer none, v] w fun e w' => e = .returned (.int .i64 0) ∧ w = w' := by
  go_enter Try.func22, Try.ntmps22
  go_wp2
  go_ret
  exact ⟨rfl, rfl⟩
end Go.Proofs.Ytaakmkkgnboedaa
namespace Go.Kb
open Go.RowKit
theorem results_row_tmp {P : Program} {fn : Func} {p q : Tmp} {ty : TypeId} (h : fn.results = #[.cell p ty, .tmp q]) (tmps : Array Value) (w : World) (g : Nat) (t : TypeId) (cs : Array Value) (fr : Nat × Nat) (d : TypeDesc) (y : Value)
    (hp : tmps.getD p undef = .pointer (some ⟨g, 0, none⟩)) (hq : tmps.getD q undef = y) (hg : w.heap[g]? = some (.cells cs t fr))
    (hu : P.underlying ty = some d) (hd : (match d with | .struct _ | .array _ _ => true | _ => false) = true) (hi : (P.info? ty).map (·.size) = some cs.size) :
    (results fn tmps).run P w = .ok (.tuple #[.agg cs, y]) w := by
  have hp' : tmps[p]?.getD undef = .pointer (some ⟨g, 0, none⟩) := by simpa using hp
  have hq' : tmps[q]?.getD undef = y := by simpa using hq
  simp [results, h, hp', hq', asAddr, run_loadVar_row w g t ty cs fr d hg hu hd hi]
end Go.Kb
namespace Go.Proofs.Ytaakmkkgnboedaa
open Go Go.RowKit Go.Kb
/-- The zero entry. -/
def En.z : En := ⟨0, 0, false, false, 0, false, Fr.z⟩
set_option maxRecDepth 100000 in
set_option maxHeartbeats 400000 in
theorem c23n (w : World) : Calls Try.prog 23 #[.pointer none] w (Gives fun r w' => r = .tuple #[.agg (En.z.c (.slice none 0 0)).toArray, .bool false] ∧ Upd No w w') := by
  go_enter Try.func23, Try.ntmps23
  go_wp2_with (refine wpList_at (.store 45 (.tmp 2) (.tmp 14)) rfl ?_; refine wpList_store_agg rfl 45 (.tmp 2) (.tmp 14) rfl w.heap.size 0 rfl (En.z.c (.slice none 0 0)) rfl (by kernel_rfl) (blk_new w _) (Nat.le_refl 17) (RParts.one (x := En.z) (RParts.nil w none No)) ?_)
  refine bodyPost_ret (results_row_tmp (P := Try.prog) (fn := Try.f23) rfl _ _ _ _ _ _ _ _ rfl rfl (blk_setCells0 (cs := En.z.c (.slice none 0 0)) (blk_new w _) rfl) Try.underlying45 rfl (by kernel_rfl)) rfl (Gives.mk ⟨rfl, ((Upd.refl _ _).alloc _).trans (Upd.setsO _ _ _ _) (fun k hk e => by have : k = w.heap.size := e; omega)⟩)
set_option maxRecDepth 100000 in
set_option maxHeartbeats 400000 in
theorem c23e (w : World) (b : Nat) (s : Q) (F : Nat → Prop) (h : QRep w b s F) (hx : s.es = []) : Calls Try.prog 23 #[.pointer (some ⟨b, 0, none⟩)] w (Gives fun r w' => r = .tuple #[.agg (En.z.c (.slice none 0 0)).toArray, .bool false] ∧ Upd No w w') := by
  obtain ⟨hF, v, hb, hO⟩ := h
  obtain ⟨a0, cap0, rfl⟩ := hO.slice
  obtain ⟨kb, kbf⟩ := blk_walk hb
  have hlb := blk_lt hb
  rw [hx] at kb
  clear hO hb hx
  go_enter Try.func23, Try.ntmps23
  go_wp2_with (refine wpList_at (.store 45 (.tmp 2) (.tmp 14)) rfl ?_; refine wpList_store_agg rfl 45 (.tmp 2) (.tmp 14) rfl w.heap.size 0 rfl (En.z.c (.slice none 0 0)) rfl (by kernel_rfl) (blk_new w _) (Nat.le_refl 17) (RParts.one (x := En.z) (RParts.nil w none No)) ?_)
  refine bodyPost_ret (results_row_tmp (P := Try.prog) (fn := Try.f23) rfl _ _ _ _ _ _ _ _ rfl rfl (blk_setCells0 (cs := En.z.c (.slice none 0 0)) (blk_new w _) rfl) Try.underlying45 rfl (by kernel_rfl)) rfl (Gives.mk ⟨rfl, ((Upd.refl _ _).alloc _).trans (Upd.setsO _ _ _ _) (fun k hk e => by have : k = w.heap.size := e; omega)⟩)
set_option maxRecDepth 100000 in
set_option maxHeartbeats 400000 in
theorem c23 (w : World) (b : Nat) (s : Q) (F : Nat → Prop) (h : QRep w b s F) (x : En) (hx : s.es[0]? = some x) (hsm : Small x) :
    Calls Try.prog 23 #[.pointer (some ⟨b, 0, none⟩)] w (Gives fun r w' => ∃ v, r = .tuple #[.agg (x.c v).toArray, .bool true] ∧ OParts 116 w' v x.fr.parts (From w.heap.size) ∧ Upd No w w') := by
  obtain ⟨hF, v, hb, hO⟩ := h
  have hl : 0 < s.es.length := (List.getElem?_eq_some_iff.1 hx).1
  obtain ⟨g, off, cap, pv, cur, rfl, hcap, hg, hs, hFg, hp, hc⟩ := hO.at hx
  obtain ⟨kb, kbf⟩ := blk_walk (blk_alloc hb (.cells zE 45))
  have hz : ((s.es.length : Int) == 0) = false := beq_eq_false_iff_ne.2 (by omega)
  have hz2 : ¬ ((s.es.length : Int) = 0) := by omega
  have hl' : (0 : Int) < s.es.length := by omega
  have HC : Hid (∀ j u, (x.c pv)[j]? = some u → (w.alloc (.cells zE 45)).cell? ⟨g, off + 0 * 17 + j, none⟩ = some u) := Lib.hid fun j u hj => ((Upd.refl No w).alloc (.cells zE 45)).cell0 (hc j u hj)
  have HP := Lib.hid (hp.keep ((Upd.refl No w).alloc (.cells zE 45)) (fun _ _ _ f => f))
  clear hO hb hx hc hg hs hp
  go_enter Try.func23, Try.ntmps23
  go_wp2_with (first
    | (refine wpList_at (.load 45 (.tmp 19)) rfl ?_; refine wpList_load_agg rfl 45 (.tmp 19) rfl g (off + 0 * 17) rfl (x.c pv) _ Try.underlying45 rfl (by kernel_rfl) HC.out ?_)
    | (go_at_call 58; refine (c58 _ pv x _ HP.out hsm.1 hsm.2).mono ?_; rintro e w1 ⟨r, rfl, v1, rfl, ho, hu⟩; have HB := Lib.hid (hu.blk (blk_new w (.cells zE 45)) (fun f => f)); have HO1 := Lib.hid ho; have U1 := Lib.hid (((Upd.refl No w).alloc (.cells zE 45)).then0 hu); clear ho hu)
    | (refine wpList_at (.store 45 (.tmp 2) (.tmp 21)) rfl ?_; refine wpList_store_agg rfl 45 (.tmp 2) (.tmp 21) rfl w.heap.size 0 rfl (x.c v1) rfl (by kernel_rfl) HB.out (Nat.le_refl 17) HO1.out.r.one ?_))
  refine bodyPost_ret (results_row_tmp (P := Try.prog) (fn := Try.f23) rfl _ _ _ _ _ _ _ _ rfl rfl (blk_setCells0 (cs := x.c v1) HB.out rfl) Try.underlying45 rfl (by kernel_rfl)) rfl (Gives.mk ⟨_, rfl, ?_, ?_⟩)
  · exact (HO1.out.keep (Upd.setsO _ _ _ _) (fun k _ hk e => by have h1 : w.heap.size + 1 ≤ k := by simpa [From] using hk
                                                                have h2 : k = w.heap.size := e
                                                                omega)).mono (fun k _ hk => Nat.le_trans (by simp) hk)
  · exact U1.out.trans (Upd.setsO _ _ _ _) (fun k hk e => by have : k = w.heap.size := e; omega)
end Go.Proofs.Ytaakmkkgnboedaa
