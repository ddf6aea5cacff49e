/- Contracts of layer 19: what copies slices. -/
import Derived.Test.YtaakmkkgnboedaaProg
import Derived.Test.YtaakmkkgnboedaaMod
import Derived.Deep.RegionWith
namespace Go.Proofs.Ytaakmkkgnboedaa
open Go Go.RowKit Go.Kb
theorem info5 : (Try.prog.info? 5).map (fun i => (i.zero, i.size, i.bytes)) = some (some (.int .u8 0), 1, 1) := by kernel_rfl
theorem info116 : (Try.prog.info? 116).map (fun i => (i.zero, i.size, i.bytes)) = some (some (.agg #[(.bool false), (.bool false), (.int .u8 0), (.bool false), (.bool false), (.int .u16 0), (.bool false), (.int .u8 0), (.bool false), (.int .u8 0), (.bool false), (.bool false), (.int .u8 0), (.slice none 0 0)]), 14, 40) := by kernel_rfl
set_option maxRecDepth 100000 in
set_option maxHeartbeats 400000 in
theorem c54 (w : World) (v : Value) (n : Nat) (cs : List Value) (F : Nat → Prop) (h : RC w 1 v n cs F) (h1 : ∀ u ∈ cs, u.oneCell' = true) (hb : Fits n) :
    Calls Try.prog 54 #[v] w (Gives fun r w' => OC w' 5 1 r n cs (From w.heap.size) ∧ Upd No w w') := by
  obtain ⟨a, cap, rfl, hc⟩ := h.slice
  have H1 := Lib.hid h1
  clear h1
  have he := fun w => Lib.run_eql_slice_nil (P := Try.prog) w 92 5 a n cap 0 0 Try.underlying92
  cases a
  all_goals
    go_enter Try.func54, Try.ntmps54
    go_wp2_with (at_builtin; refine wpList_append_oc rfl (.tmp 5) (.tmp 6) 92 rfl Try.underlying92 info5 rfl (by decide) rfl rfl (OC.nil _ 5 1 No _) (h.keep ((Upd.refl No _).alloc _) (fun _ _ _ f => f)) H1.out hb.maxLen (hb.mul 1 (by decide)) ?_; intro v' w' ho hu)
    go_ret
  · have h0 : n = 0 := by
      obtain ⟨_, _, a, c, e, _, hz | ⟨g, off, rfl, _⟩⟩ := h
      · exact hz
      · cases e
    subst h0
    obtain rfl : cs = [] := List.eq_nil_of_length_eq_zero (by simpa using h.1)
    exact Gives.mk ⟨OC.nil _ _ _ _ _, Upd.refl _ _⟩
  · refine Gives.mk ⟨?_, ((Upd.refl _ _).alloc _).then0 hu⟩
    simp only [List.nil_append, Nat.zero_add] at ho
    exact ho.mono (fun k _ hk => by rcases hk with hk | hk; exact hk.elim; simp at hk; exact Nat.le_of_lt hk)
set_option maxRecDepth 100000 in
set_option maxHeartbeats 400000 in
theorem c53 (w : World) (v : Value) (n : Nat) (cs : List Value) (F : Nat → Prop) (h : RC w 14 v n cs F) (h1 : ∀ u ∈ cs, u.oneCell' = true) (hb : Fits n) :
    Calls Try.prog 53 #[v] w (Gives fun r w' => OC w' 116 14 r n cs (From w.heap.size) ∧ Upd No w w') := by
  obtain ⟨a, cap, rfl, hc⟩ := h.slice
  have H1 := Lib.hid h1
  clear h1
  have he := fun w => Lib.run_eql_slice_nil (P := Try.prog) w 39 116 a n cap 0 0 Try.underlying39
  cases a
  all_goals
    go_enter Try.func53, Try.ntmps53
    go_wp2_with (at_builtin; refine wpList_append_oc rfl (.tmp 5) (.tmp 6) 39 rfl Try.underlying39 info116 rfl (by decide) rfl rfl (OC.nil _ 116 14 No _) (h.keep ((Upd.refl No _).alloc _) (fun _ _ _ f => f)) H1.out hb.maxLen (hb.mul 40 (by decide)) ?_; intro v' w' ho hu)
    go_ret
  · have h0 : n = 0 := by
      obtain ⟨_, _, a, c, e, _, hz | ⟨g, off, rfl, _⟩⟩ := h
      · exact hz
      · cases e
    subst h0
    obtain rfl : cs = [] := List.eq_nil_of_length_eq_zero (by simpa using h.1)
    exact Gives.mk ⟨OC.nil _ _ _ _ _, Upd.refl _ _⟩
  · refine Gives.mk ⟨?_, ((Upd.refl _ _).alloc _).then0 hu⟩
    simp only [List.nil_append, Nat.zero_add] at ho
    exact ho.mono (fun k _ hk => by rcases hk with hk | hk; exact hk.elim; simp at hk; exact Nat.le_of_lt hk)
def I20 (w : World) (f : Fr) (F : Nat → Prop) (vs : Value) (k : Nat) (wr : World) : Prop :=
  wr.heap[w.heap.size]? = some (.cells (f.c vs).toArray 41 (0, 0)) ∧ wr.heap[w.heap.size + 1]? = some (.cells (Fr.z.c (.slice none 0 0)).toArray 41 (0, 0)) ∧ Upd No w wr ∧
  ∃ ca cb, OC wr 116 14 vs f.parts.length (ca ++ cb) (From (w.heap.size + 2)) ∧ Els 14 (OPart wr (From (w.heap.size + 2))) (f.parts.take k) ca ∧ Els 14 (RPart wr (fun k => F k ∧ k < w.heap.size)) (f.parts.drop k) cb
theorem I20.step {w : World} {f : Fr} {F : Nat → Prop} {g off cap k : Nat} {wr w1 : World} {p : Part} {r : Value} (h : I20 w f F (.slice (some ⟨g, off, none⟩) f.parts.length cap) k wr) (hp : f.parts[k]? = some p)
    (hu : Upd No wr w1) (ho : OC w1 5 1 r p.rest.length (byt p.rest) (From wr.heap.size)) : I20 w f F (.slice (some ⟨g, off, none⟩) f.parts.length cap) (k + 1) (w1.setCell ⟨g, off + k * 14 + 13, none⟩ r) := by
  obtain ⟨b0, b1, hU, ca, cb, hO, hA, hB⟩ := h
  have hlt := (List.getElem?_eq_some_iff.1 hp).1
  have hps : f.parts.drop k = p :: f.parts.drop (k + 1) := by rw [List.drop_eq_getElem_cons hlt]; rw [List.getElem?_eq_getElem hlt] at hp; injection hp with hp; rw [hp]
  rw [hps] at hB
  obtain ⟨c, r', rfl, hcl, ⟨rv, rfl, hrest⟩, hB⟩ := hB
  have hcal : ca.length = k * 14 := by rw [hA.len, List.length_take]; rw [Nat.min_eq_left (Nat.le_of_lt hlt)]
  obtain ⟨g', off', cap', cur', he, -, hgb, hfit, hgF, hcell⟩ := hO.at (by omega)
  injection he with he _ he3
  injection he with he
  injection he with he1 he2
  subst he1; subst he2; subst he3
  have hgl := blk_lt hgb
  have hs := Upd.set1 w1 g (off + k * 14 + 13) r
  have hgF' : w.heap.size + 2 ≤ g := hgF
  have hgb1 := hu.blk hgb (fun f => f)
  refine ⟨hs.blk (hu.blk b0 (fun f => f)) (not_only (by omega)), hs.blk (hu.blk b1 (fun f => f)) (not_only (by omega)), (hU.then0 hu).trans hs (fun k hk e => by have : k = g := e; omega), ca ++ p.c r, r', ?_, ?_, ?_⟩
  · have h1 := (hO.keep hu (fun _ _ _ f => f)).set (k * 14 + 13) (by simp [hcal, hcl]; omega) r
    rw [Nat.add_assoc]
    have e : (ca ++ (p.c rv ++ r')).set (k * 14 + 13) r = ca ++ p.c r ++ r' := by
      rw [List.set_append_right _ _ (by omega), hcal, show k * 14 + 13 - k * 14 = 13 by omega, List.append_assoc]
      rfl
    rwa [e] at h1
  · have et : f.parts.take (k + 1) = f.parts.take k ++ [p] := by rw [List.take_add_one, hp]; rfl
    rw [et]
    refine Els.append (hA.imp fun _ _ ⟨v, e, h⟩ => ⟨v, e, (h.keep hu (fun _ _ _ f => f)).keep1 hs hgb1 (by decide)⟩) (Els.one rfl ⟨r, rfl, ?_⟩)
    exact (ho.keep1 hs hgb1 (by decide)).mono (fun k _ hk => Nat.le_trans (blk_lt b1) hk)
  · exact hB.imp fun _ _ h => (h.keep hu (fun _ _ _ f => f)).keep hs (fun k _ hk e => by have : k = g := e; omega)
theorem I20.done {w : World} {f : Fr} {F : Nat → Prop} {vs : Value} {wr : World} (h : I20 w f F vs f.parts.length wr) : OParts 116 wr vs f.parts (From (w.heap.size + 2)) ∧ Upd No w wr := by
  obtain ⟨b0, b1, hU, ca, cb, hO, hA, hB⟩ := h
  rw [List.drop_length] at hB
  cases hB
  rw [List.take_length] at hA
  rw [List.append_nil] at hO
  exact ⟨⟨ca, hO, hA⟩, hU⟩
set_option maxRecDepth 100000 in
set_option maxHeartbeats 400000 in
theorem c20 (w : World) (v : Value) (f : Fr) (F : Nat → Prop) (h : RParts w v f.parts F) (hb : Fits f.parts.length) (hr : ∀ p ∈ f.parts, Fits p.rest.length) :
    Calls Try.prog 20 #[.agg (f.c v).toArray] w (Gives fun r w' => ∃ v', r = .agg (f.c v').toArray ∧ OParts 116 w' v' f.parts (From w.heap.size) ∧ Upd No w w') := by
  obtain ⟨cs, hc, hE⟩ := h.bound
  have H1 : Hid (∀ u ∈ cs, u.oneCell' = true) := hE.all fun _ _ h => h.one
  obtain ⟨a0, cap0, rfl, hcap⟩ := hc.slice
  unfold Fr.c
  go_enter Try.func20, Try.ntmps20
  go_wp2_with fail
  refine (c53 _ _ _ _ _ (hc.keep (((Upd.refl No _).alloc _).alloc _) (fun _ _ _ f => f)) H1.out hb).mono ?_
  rintro e w1 ⟨r, rfl, ho, hu⟩
  obtain ⟨a1, cap1, rfl, -⟩ := ho.slice
  have hU : Upd No w w1 := (((Upd.refl No _).alloc _).alloc _).then0 hu
  have hk := hu.blk (blk_alloc (blk_new w _) _) (fun f => f)
  have hk2 := hu.blk (blk_new (w.alloc _) _) (fun f => f)
  have ho1 := ho.mono (F' := From (w.heap.size + 2)) (fun k _ hk => by simpa [From] using hk)
  obtain ⟨kc, kf⟩ := blk_walk hk
  clear ho hu
  rw [World.size_alloc] at hk2
  go_wp2_with fail
  clear kc kf
  have hI0 : I20 w f F (.slice a1 f.parts.length cap1) 0 (w1.setCell ⟨w.heap.size, 10, none⟩ (.slice a1 f.parts.length cap1)) := by
    have hu2 := Upd.set1 w1 w.heap.size 10 (.slice a1 f.parts.length cap1)
    refine ⟨by rw [blk_setCell hk]; rfl, hu2.blk hk2 (not_only (by omega)), hU.trans hu2 (fun k hk e => by have : k = w.heap.size := e; omega), [], cs, ?_, rfl, ?_⟩
    · exact ho1.keep hu2 (fun k _ hk e => by have : k = w.heap.size := e; unfold From at hk; omega)
    · simpa using (hE.imp fun _ _ h => (h.keep hU (fun _ _ _ f => f)).keep hu2 (fun k _ hk e => by have : k = w.heap.size := e; omega))
  have HI0 := Lib.hid hI0
  clear hI0 hU hk hk2 ho1 hE H1
  go_loopw [11] (fun i wr => ∃ k : Nat, k ≤ f.parts.length ∧ i = .int .i64 k ∧ Hid (I20 w f F (.slice a1 f.parts.length cap1) k wr)) (fun i _ => f.parts.length - (intOf i).toNat)
  case atStart => exact ⟨0, Nat.zero_le _, rfl, HI0⟩
  case round =>
    clear HI0
    obtain ⟨k, hk, rfl, hI⟩ := hrel
    obtain ⟨b0, b1, hU, ca, cb, hO, hA, hB⟩ := hI.out
    obtain ⟨kc, kf⟩ := blk_walk b0
    have hmax : f.parts.length ≤ 60000 := hb
    by_cases hlt : k < f.parts.length
    · obtain ⟨p, hp⟩ : ∃ p, f.parts[k]? = some p := ⟨_, List.getElem?_eq_getElem hlt⟩
      have hps : f.parts.drop k = p :: f.parts.drop (k + 1) := by rw [List.drop_eq_getElem_cons hlt]; rw [List.getElem?_eq_getElem hlt] at hp; injection hp with hp; rw [hp]
      have HP := Lib.hid hp
      clear hp
      have hpm : p ∈ f.parts := List.mem_of_mem_drop (hps ▸ List.mem_cons_self)
      rw [hps] at hB
      obtain ⟨c, r, rfl, hcl, ⟨rv, rfl, hrest⟩, hB⟩ := hB
      have hcal : ca.length = k * 14 := by rw [hA.len, List.length_take]; rw [Nat.min_eq_left (Nat.le_of_lt hlt)]
      obtain ⟨g', off', cap', cur', he, -, hgb, hfit, hgF, hcell⟩ := hO.at (by omega)
      injection he with he _ he3
      subst he; subst he3
      have kg : wr.cell? ⟨g', off' + k * 14 + 13, none⟩ = some rv := by
        rw [cell_of_blk hgb, Nat.add_assoc]
        refine hcell _ _ ?_
        rw [List.getElem?_append_right (by omega)]
        simp [hcal, Part.c]
      have kgf : wr.frozen? ⟨g', off' + k * 14 + 13, none⟩ = false := frozen_of_blk hgb _
      obtain ⟨ra, rcap, rfl, hrc⟩ := RC.slice hrest
      have HR := Lib.hid hrest
      have Hfit : Hid (Fits p.rest.length) := hr p hpm
      clear hrest hO hA hB hcell hU b0 b1 hgb hps
      have k10 : wr.cell? ⟨w.heap.size, 10, none⟩ = some (.slice (some ⟨g', off', none⟩) f.parts.length cap1) := by rw [kc]; rfl
      clear kc
      have hlt' : (k : Int) < f.parts.length := by omega
      go_wp2_with fail
      go_region_with (first | (go_at_call 54; refine (c54 _ _ _ _ _ (HR.out.keep ((Upd.refl No _).drew) (fun _ _ _ f => f)) (byt_one _) Hfit.out).mono ?_; rintro e w1 ⟨r, rfl, ho, hu⟩; obtain ⟨a1, cap1, rfl, hcap1⟩ := ho.slice; have j10 := hu.cell0 k10; have jg := hu.cell0 kg; have jgf := (hu.frozen (a := ⟨g', off' + k * 14 + 13, none⟩) (World.block_lt_of_cell? _ _ kg) (fun f => f)).trans kgf; have hu := Lib.hid hu; have ho := Lib.hid ho))
      all_goals
        go_wp2_with fail
        go_roundw
        case rel => exact ⟨k + 1, by omega, by go_num, I20.step hI HP.out (((Upd.refl No _).drew).then0 hu.out) ho.out⟩
        case measure => simp [intOf]; omega
    · obtain rfl : k = f.parts.length := by omega
      have k1 := fun j => cell_of_blk b1 j
      have k1f := fun j => frozen_of_blk b1 j
      simp only [Fr.c, Fr.z, Info.z] at kc k1
      clear hcap hb hO hA hB hU b0 b1 hlt hk
      go_wp2
      have hu2 := setCells_upd (w.heap.size + 1) (f.c (.slice a1 f.parts.length cap1)) 0 wr
      obtain ⟨d1, d2⟩ := hI.out.done
      refine bodyPost_ret (v := .agg (f.c (.slice a1 f.parts.length cap1)).toArray) (by simp [results, Try.results20, go_sem, k1, Fr.c]) rfl (Gives.mk ⟨_, rfl, ?_, ?_⟩)
      · exact (OParts.keep d1 hu2 (fun k _ hk e => by have : k = w.heap.size + 1 := e; unfold From at *; omega)).mono (fun k _ hk => by unfold From at *; omega)
      · exact d2.trans hu2 (fun k hk e => by have : k = w.heap.size + 1 := e; omega)
end Go.Proofs.Ytaakmkkgnboedaa
