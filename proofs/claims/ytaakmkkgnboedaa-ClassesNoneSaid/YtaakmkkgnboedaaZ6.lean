import Derived.Test.YtaakmkkgnboedaaV
import Derived.Test.YtaakmkkgnboedaaX
import Derived.Test.YtaakmkkgnboedaaY
import Derived.Test.YtaakmkkgnboedaaK
import Derived.Test.YtaakmkkgnboedaaM
namespace Go.Proofs.Ytaakmkkgnboedaa
open Go Go.RowKit Go.Kb
set_option maxRecDepth 100000 in
set_option maxHeartbeats 1600000 in
theorem c6 (w : World) (v : Value) (x : En) (n : Int) (F : Nat → Prop) (h : RParts w v x.fr.parts F) :
    Calls Try.prog 6 #[.agg (x.c v).toArray, .int .u16 n] w fun e w' => e = .returned (.bool true) ∧ Upd No w w' := by
  have HP := Lib.hid (h.keep ((Upd.refl No w).alloc (.cells (x.c v).toArray 45)) (fun _ _ _ f => f))
  have HN := Lib.hid (blk_new w (.cells (x.c v).toArray 45))
  obtain ⟨a0, cap0, rfl⟩ := h.slice
  clear h
  go_enter Try.func6, Try.ntmps6
  go_wp2_with (refine wpList_at (.load 41 (.tmp 16)) rfl ?_; refine wpList_load_agg rfl 41 (.tmp 16) rfl w.heap.size 6 rfl (x.fr.c (.slice a0 x.fr.parts.length cap0)) _ Try.underlying41 rfl (by kernel_rfl) (sub_cells HN.out (sub_right (a := x.hd) rfl)) ?_)
  refine (c44 _ _ x.fr _ HP.out).mono ?_
  rintro e w1 ⟨rfl, u1⟩
  have V1 := Lib.hid (((Upd.refl No w).alloc (.cells (x.c (.slice a0 x.fr.parts.length cap0)).toArray 45)).then0 u1)
  have B1 := Lib.hid (u1.blk HN.out (fun f => f))
  clear u1
  cases hf : fewL x.fr
  · go_wp2_with fail
    refine (c9 _).mono ?_
    rintro e w2 ⟨rfl, u2⟩
    have V2 := Lib.hid (V1.out.then0 u2)
    clear u2
    go_wp2
    go_ret
    exact ⟨rfl, V2.out⟩
  · go_wp2_with fail
    refine (c23n _).mono ?_
    rintro e w2 ⟨r, rfl, rfl, u2⟩
    have V2 := Lib.hid (V1.out.then0 u2)
    have B2 := Lib.hid (u2.blk B1.out (fun f => f))
    clear u2
    go_wp2_with (refine wpList_at (.store 45 (.tmp 7) (.tmp 24)) rfl ?_; refine wpList_store_agg rfl 45 (.tmp 7) (.tmp 24) rfl w2.heap.size 0 rfl (En.z.c (.slice none 0 0)) rfl (by kernel_rfl) (blk_new _ _) (Nat.le_refl 17) (RParts.one (x := En.z) (RParts.nil w none No)) ?_; obtain ⟨g0, gU⟩ := rng_copy w2 zE 45 (En.z.c (.slice none 0 0)) rfl; revert g0 gU; generalize World.setCells _ w2.heap.size 0 (En.z.c (.slice none 0 0)) = W3; intro g0 gU; have V3 := Lib.hid (V2.out.then0 gU); have B3 := Lib.hid (gU.blk B2.out (fun f => f)); clear g0 gU)
    refine (c16n _).mono ?_
    rintro e w4 ⟨r, rfl, rfl, u4⟩
    have V4 := Lib.hid (V3.out.then0 u4)
    have B4 := Lib.hid (u4.blk B3.out (fun f => f))
    clear u4
    go_wp2_with (refine wpList_at (.store 45 (.tmp 9) (.tmp 29)) rfl ?_; refine wpList_store_agg rfl 45 (.tmp 9) (.tmp 29) rfl w4.heap.size 0 rfl (En.z.c (.slice none 0 0)) rfl (by kernel_rfl) (blk_new _ _) (Nat.le_refl 17) (RParts.one (x := En.z) (RParts.nil w none No)) ?_; obtain ⟨g0, gU⟩ := rng_copy w4 zE 45 (En.z.c (.slice none 0 0)) rfl; revert g0 gU; generalize World.setCells _ w4.heap.size 0 (En.z.c (.slice none 0 0)) = W5; intro g0 gU; have V5 := Lib.hid (V4.out.then0 gU); have B5 := Lib.hid (gU.blk B4.out (fun f => f)); clear g0 gU)
    go_wp2_with (first
      | (go_at_call 39; refine (c39n _).mono ?_; rintro e w6 ⟨r, rfl, rfl, rfl⟩)
      | (go_at_call 41; refine (c41n _).mono ?_; rintro e w6 ⟨r, rfl, rfl, rfl⟩)
      | (refine wpList_at (.load 45 (.tmp 2)) rfl ?_; refine wpList_load_agg rfl 45 (.tmp 2) rfl w.heap.size 0 rfl (x.c (.slice a0 x.fr.parts.length cap0)) _ Try.underlying45 rfl (by kernel_rfl) (all_cells B5.out) ?_)
      | (refine wpList_at (.buildSlice 73 1 #[(0, .tmp 42)]) rfl ?_; refine wpList_build1 rfl (.tmp 42) rfl x (.slice a0 x.fr.parts.length cap0) rfl ?_)
      | (go_at_call 22; refine (c22n _ _).mono ?_; rintro e w6 ⟨rfl, rfl⟩)
      | (go_at_call 14; refine (c14n _).mono ?_; rintro e w6 ⟨rfl, rfl⟩)
      | (go_at_call 24; refine (c24n _).mono ?_; rintro e w6 ⟨rfl, rfl⟩)
      | (go_at_call 25; refine (c25n _).mono ?_; rintro e w6 ⟨rfl, rfl⟩)
      | (go_at_call 27; refine (c27n _ _ _).mono ?_; rintro e w6 ⟨rfl, rfl⟩)
      | (go_at_call 29; refine (c29n _).mono ?_; rintro e w6 ⟨rfl, rfl⟩)
      | (go_at_call 43; refine (c43n _).mono ?_; rintro e w6 ⟨rfl, rfl⟩)
      | (go_at_call 42; refine (c42n _ _ _).mono ?_; rintro e w7 ⟨rfl, u7⟩; have V7 := Lib.hid ((V5.out.alloc _).then0 u7); clear u7)
      | (go_at_call 9; refine (c9 _).mono ?_; rintro e w8 ⟨rfl, u8⟩; have V8 := Lib.hid (V7.out.then0 u8); clear u8))
    go_ret
    exact ⟨rfl, V8.out⟩
end Go.Proofs.Ytaakmkkgnboedaa
