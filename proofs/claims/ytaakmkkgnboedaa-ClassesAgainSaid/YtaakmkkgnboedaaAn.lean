/- The law of layer 19 on packets that are sent again: its walk. -/
import Derived.Test.YtaakmkkgnboedaaAm
namespace Go.Proofs.Ytaakmkkgnboedaa
open Go Go.RowKit Go.Kb
set_option linter.unusedVariables false
theorem c5long (n : Int) (w : World) (a0 : Option Addr) (m cap : Nat) (hm : 40 < m) :
    Calls Try.prog 5 #[.int .i64 n, .slice a0 m cap] w fun e w' => e = .returned (.bool true) ∧ Upd No w w' := by
  have h1 : decide ((40 : Nat) < m) = true := decide_eq_true hm
  have h2 : decide ((40 : Int) < m) = true := decide_eq_true (by omega)
  go_enter Try.func5, Try.ntmps5
  go_wp2_with (go_at_call 9; refine (c9 _).mono ?_; rintro e w1 ⟨rfl, u⟩; have U := Lib.hid u; clear u)
  go_ret
  exact ⟨rfl, U.out⟩
theorem c5bad (n : Int) (hn : ¬ (1 ≤ n ∧ n ≤ 256)) (w : World) (a0 : Option Addr) (m cap : Nat) (hm : m ≤ 40) :
    Calls Try.prog 5 #[.int .i64 n, .slice a0 m cap] w fun e w' => e = .returned (.bool true) ∧ Upd No w w' := by
  have h1 : decide ((40 : Nat) < m) = false := decide_eq_false (by omega)
  have h2 : decide ((40 : Int) < m) = false := decide_eq_false (by omega)
  have HN := Lib.hid hn
  clear hn
  go_enter Try.func5, Try.ntmps5
  go_wp2_with (first
    | (go_at_call 38; refine (c38no n HN.out _).mono ?_; rintro e w1 ⟨r, rfl, u, rfl⟩; have U := Lib.hid u; clear u)
    | (go_at_call 11; refine (c11no n HN.out _).mono ?_; rintro e w2 ⟨rfl, rfl⟩)
    | (go_at_call 9; refine (c9 _).mono ?_; rintro e w3 ⟨rfl, u⟩; have U3 := Lib.hid u; clear u))
  go_ret
  exact ⟨rfl, U.out.then0 U3.out⟩
set_option maxRecDepth 100000 in
set_option maxHeartbeats 1600000 in
theorem c5 (n : Int) (hn : 1 ≤ n ∧ n ≤ 256) (w : World) (v : Value) (l : List Int) (G : Nat → Prop) (hl : RC w 1 v l.length (u16s l) G) (hr : ∀ x ∈ l, 0 ≤ x ∧ x < 65536) (hm : l.length ≤ 40) :
    Calls Try.prog 5 #[.int .i64 n, v] w fun e w' => e = .returned (.bool true) ∧ Upd No w w' := by
  have h1 : decide ((40 : Nat) < l.length) = false := decide_eq_false (by omega)
  have h2 : decide ((40 : Int) < l.length) = false := decide_eq_false (by omega)
  obtain ⟨a0, cap0, rfl, -⟩ := hl.slice
  have HN := Lib.hid hn
  have HL := Lib.hid hl
  have HR := Lib.hid hr
  clear hn hl hr
  go_enter Try.func5, Try.ntmps5
  go_wp2_with (first
    | (go_at_call 38; refine (c38 n HN.out _).mono ?_; rintro e w1 ⟨r, rfl, u, A, rfl, hA⟩; have U := Lib.hid u; have HA := Lib.hid hA; clear u hA)
    | (go_at_call 11; refine (c11 n HN.out _).mono ?_; rintro e w2 ⟨rfl, rfl⟩))
  clear h1 h2
  go_loopw [7, 8] (fun wt i wr => ∃ (k : Nat) (ps : List Pk), k ≤ l.length ∧ i = .int .i64 k ∧ Hid (I5 w A n k ps wt wr)) (fun _ i _ => l.length - (intOf i).toNat)
  case atStart => exact ⟨0, [], Nat.zero_le _, rfl, Lib.hid ⟨Nat.le_refl _, (fun p hp => by cases hp), U.out, _, No, HA.out.bound, OC.nil _ _ _ _ _, (fun _ _ f => f), fun j hj => ⟨hj.1, hj.2⟩, fun j hj => hj.elim⟩⟩
  case round =>
    obtain ⟨k, ps, hk, rfl, hI⟩ := hrel
    by_cases hlt : k < l.length
    · have hlt' : (k : Int) < l.length := by omega
      obtain ⟨x, hx⟩ : ∃ x, l[k]? = some x := ⟨_, List.getElem?_eq_getElem hlt⟩
      obtain ⟨hx0, hx1⟩ := HR.out x (List.mem_of_getElem? hx)
      obtain ⟨gl, ol, capl, he, -, -, hgl, hcl⟩ := HL.out.at (by omega)
      injection he with he _ he3
      subst he; subst he3
      have HC : Hid (w.cell? ⟨gl, ol + k, none⟩ = some (.int .u16 x)) := Lib.hid (hcl k _ (by simp [u16s, hx]))
      clear hx hcl hgl
      obtain ⟨hle, hok, hU, FA, FW, hA, hW, hd, hfa, hfw⟩ := hI.out
      cases ps with
      | nil =>
        obtain ⟨aw, capw, rfl, -⟩ := hW.slice
        have HA1 := Lib.hid hA
        clear hA hW hd hfa hfw hok
        go_wp2_with (first
          | (go_at_call 39; refine (c39e _ _ _ _ HA1.out rfl).mono ?_; rintro e w3 ⟨r, rfl, rfl, rfl⟩))
        go_quiet (fail)
        rcases (show (x % 10 == 9) = true ∨ (x % 10 == 9) = false by cases (x % 10 == 9) <;> simp) with h9 | h9
        all_goals
          go_wp2_with (first
            | (go_at_call 40; refine (c40 _ _ 0 [] No (OC.nil _ _ _ _ _) (Nat.zero_le _)).mono ?_; rintro e w4 ⟨rfl, u4⟩; have U4 := Lib.hid ((((Upd.refl No wr).drewN _)).then0 u4); have J4 := Lib.hid (hI.out.keep (U4.out.mono (fun _ _ f => f.elim))); have kx := (hU.then0 U4.out).cell0 HC.out; clear u4)
            | (go_at_call 41; refine (c41e _ _ _ _ (HA1.out.keep U4.out (fun _ _ _ f => f)) rfl).mono ?_; rintro e w5 ⟨r, rfl, rfl, rfl⟩))
        · go_quiet (fail)
          go_wp2_with (first
            | (go_at_call 43; refine (c43 _ _ _ _ (HA1.out.keep (U4.out.drewN _) (fun _ _ _ f => f))).mono ?_; rintro e w6 ⟨rfl, rfl⟩))
          exact ⟨⟨k + 1, [], by omega, by go_num, Lib.hid (J4.out.keep ((Upd.refl _ _).drewN _)).next⟩, by simp [intOf]; omega⟩
        · obtain ⟨hle4, hok4, hU4, FA4, FW4, hA4, hW4, hd4, hfa4, hfw4⟩ := J4.out
          have HA4 := Lib.hid hA4
          have HW4 := Lib.hid hW4
          have HD4 := Lib.hid (And.intro hd4 (And.intro hfa4 hfw4))
          have HO4 := Lib.hid hok4
          have HU4 := Lib.hid hU4
          clear hA4 hW4 hd4 hfa4 hfw4 hok4 hU4
          go_loopw [13, 14] (fun may j wr2 => ∃ jn : Nat, jn ≤ (([] : List Pk)).length ∧ j = .int .i64 jn ∧ may = .bool (mayJ n x (([] : List Pk)) jn) ∧ Hid (Upd No w4 wr2)) (fun _ j _ => (([] : List Pk)).length - (intOf j).toNat)
          case atStart => exact ⟨0, Nat.zero_le _, rfl, by rw [mayJ_zero]; rfl, Lib.hid (Upd.refl _ _)⟩
          case round =>
            obtain ⟨jn, hjn, rfl, rfl, hIJ⟩ := hrel
            by_cases hlj : jn < (([] : List Pk)).length
            · skip
              exact absurd hlj (Nat.not_lt_zero _)
            · obtain rfl : jn = (([] : List Pk)).length := by omega
              have U45 := hIJ
              have kx5 := (HU4.out.then0 hIJ.out).cell0 HC.out
              have hgl5 := World.block_lt_of_cell? _ _ kx5
              have A5 := Lib.hid (HA4.out.keep hIJ.out (fun _ _ _ f => f))
              have W5 := Lib.hid (HW4.out.keep hIJ.out (fun _ _ _ f => f))
              have U5 := Lib.hid (HU4.out.then0 hIJ.out)
              have hs5 := hIJ.out.size
              have hplen : (([] : List Pk)).length + 1 ≤ 60000 := by simp only [List.length_cons, List.length_nil]; omega
              have hm1 : (([] : List Pk)).length + 1 ≤ maxLen := by unfold maxLen; omega
              have hm2 : ((([] : List Pk)).length + 1) * 2 ≤ 140737488355328 := by omega
              have e0 := mayJ_all n x (([] : List Pk))
              rw [e0]
              clear e0 kx
              simp only [List.length_cons, List.length_nil] at hm1 hm2
              simp only [List.length_cons, List.length_nil]
              cases hmp : mayPut ⟨n, ([] : List Pk)⟩ x
              · have HP := Lib.hid hmp
                clear hmp
                go_wp2_with (first
                  | (go_at_call 42; refine (c42no _ _ ⟨n, ([] : List Pk)⟩ FA4 _ _ (A5.out.keep ((Upd.refl No _).alloc _) (fun _ _ _ f => f)) (Nat.le_of_succ_le hplen) HP.out).mono ?_; rintro e w7 ⟨rfl, u7⟩; have U7 := Lib.hid u7; have N7 := Lib.hid (OC.keep (OC.new wr 1 [.int .u8 (x % 256)] 5 1 rfl (by decide)) u7 (fun _ _ _ f => f)); clear u7)
                  | (go_at_call 40; refine (c40 _ _ 1 _ _ N7.out (show 1 ≤ 60000 by decide)).mono ?_; rintro e w8 ⟨rfl, u8⟩; have U8 := Lib.hid ((((Upd.refl (From wr.heap.size) wr).alloc (.cells #[.int .u8 (x % 256)] 5)).then0 U7.out).trans u8 (fun k hk e => absurd (show k = wr.heap.size from e) (Nat.ne_of_lt hk))); clear u8)
                  | (go_at_call 43; refine (c43 _ _ _ _ (A5.out.bound.keep U8.out (fun k _ hk e => absurd e (Nat.not_le.2 hk.2)))).mono ?_; rintro e w9 ⟨rfl, rfl⟩))
                exact ⟨⟨k + 1, ([] : List Pk), by omega, by go_num, Lib.hid ((J4.out.keep (hIJ.out.mono (fun _ _ f => f.elim))).keep U8.out).next⟩, by simp [intOf]; omega⟩
              · have HP := Lib.hid hmp
                clear hmp
                go_wp2_with (first
                  | (go_at_call 42; refine (c42 _ _ ⟨n, ([] : List Pk)⟩ FA4 (Only wr.heap.size) _ _ [x % 256] (A5.out.keep ((Upd.refl No _).alloc _) (fun _ _ _ f => f)) hplen HP.out (RC.new wr 1 [.int .u8 (x % 256)] 5 1 rfl (by decide)) (show 1 ≤ 60000 by decide)).mono ?_; rintro e w7 ⟨rfl, a7, u7⟩; have U7 := Lib.hid u7; have A7 := Lib.hid (a7.mono (F' := fun k => FA4 k ∨ wr.heap.size + 1 ≤ k) (fun k _ hk => hk.elim .inl (fun h => .inr (by simpa using h)))); have N7 := Lib.hid (OC.keep (OC.new wr 1 [.int .u8 (x % 256)] 5 1 rfl (by decide)) u7 (fun k _ e h => by have h1 : k = wr.heap.size := e; have := (HD4.out.2.1 k h).2; omega)); have hs7 := u7.size; simp only [World.size_alloc] at hs7; clear u7 a7)
                  | (go_at_call 40; refine (c40 _ _ 1 _ _ N7.out (show 1 ≤ 60000 by decide)).mono ?_; rintro e w8 ⟨rfl, u8⟩; have U8 := Lib.hid u8; have UW8 := Lib.hid (((U5.out.alloc (.cells #[.int .u8 (x % 256)] 5)).trans U7.out (fun k hk e => absurd (HD4.out.2.1 k e).1 (Nat.not_le.2 hk))).trans u8 (fun k hk e => absurd (Nat.lt_of_lt_of_le hk U5.out.size) (Nat.not_lt.2 (Nat.le_of_eq (show k = wr.heap.size from e).symm)))); have kx8 := UW8.out.cell0 HC.out; have hgl8 := World.block_lt_of_cell? _ _ kx8; have W8 := Lib.hid (((W5.out.bound.keep ((Upd.refl No wr).alloc (.cells #[.int .u8 (x % 256)] 5)) (fun _ _ _ f => f)).keep U7.out (fun k _ hk e => HD4.out.1 k e hk.1)).keep u8 (fun k _ hk e => absurd hk.2 (Nat.not_lt.2 (Nat.le_of_eq (show k = wr.heap.size from e).symm)))); have A8 := Lib.hid (A7.out.bound.keep u8 (fun k _ hk e => hk.1.elim (fun h => absurd (Nat.lt_of_lt_of_le (HD4.out.2.1 k h).2 hs5) (Nat.not_lt.2 (Nat.le_of_eq (show k = wr.heap.size from e).symm))) (fun h => absurd (show k = wr.heap.size from e) (Nat.ne_of_gt h)))); clear u8)
                  | (refine wpList_at (.call { callee := .builtin .append, args := #[.tmp 148, .tmp 153], argTypes := #[88, 88] }) rfl ?_; refine wpList_append_oc rfl (.tmp 148) (.tmp 153) 88 rfl Try.underlying88 info36 rfl (by decide) rfl rfl (W8.out.keep ((Upd.refl No w8).alloc (.cells #[.int .u16 x] 36)) (fun _ _ _ f => f)) (RC.new w8 1 [.int .u16 x] 36 1 rfl (by decide)) (by simp [Value.oneCell']) hm1 hm2 ?_; intro v10 w10 h10 u10; obtain ⟨a10, cap10, rfl, -⟩ := h10.slice; have W10 := Lib.hid h10; have U10 := Lib.hid u10; clear h10 u10)
                  | (go_at_call 43; refine (c43 _ _ _ _ ((A8.out.keep ((Upd.refl No w8).alloc (.cells #[.int .u16 x] 36)) (fun _ _ _ f => f)).keep U10.out (fun k _ hk e => hk.1.elim (fun h => HD4.out.1 k h e.1) (fun h => absurd e.2 (Nat.not_lt.2 (Nat.le_of_succ_le h)))))).mono ?_; rintro e w11 ⟨rfl, rfl⟩))
                exact ⟨⟨k + 1, ([] : List Pk) ++ [⟨x, [x % 256]⟩], by omega, by go_num, Lib.hid (I5.more (w5 := wr) ⟨hx0, hx1⟩ hle4 HO4.out U5.out HD4.out.1 (fun j hj => ⟨(HD4.out.2.1 j hj).1, Nat.lt_of_lt_of_le (HD4.out.2.1 j hj).2 hs5⟩) (fun j hj => ⟨(HD4.out.2.2 j hj).1, Nat.lt_of_lt_of_le (HD4.out.2.2 j hj).2 hs5⟩) A7.out (((Upd.refl FA4 wr).alloc _).same U7.out) U8.out ((Upd.refl No w8).alloc _) hs7 (W10.out.mono (fun k _ hk => hk.elim (fun h => .inl h.1) .inr)) (U10.out.mono (fun k _ hk => hk.1)))⟩, by simp [intOf]; omega⟩
      | cons p ps =>
        obtain ⟨hpb, hp0, hp1⟩ := hok p (List.mem_cons_self)
        have hps : ps.length + 1 ≤ k := hle
        obtain ⟨gw, ow, capw, curw, rfl, hcapw, hgw, hfitw, -, hcw⟩ := hW.at (Nat.succ_pos _)
        have kw : wr.cell? ⟨gw, ow, none⟩ = some (.int .u16 p.seq) := by simpa using (cell_of_blk hgw ow).trans (by simpa using hcw 0 _ rfl)
        have HA1 := Lib.hid hA
        have HW1 := Lib.hid hW
        have HPB := Lib.hid hpb
        simp only [List.length_cons] at hcapw
        clear hA hW hd hfa hfw hok hpb hcw hgw hfitw
        simp only [List.length_cons]
        go_wp2_with (first
          | (go_at_call 39; go_loud (refine (c39 _ _ _ _ HA1.out p rfl (by rw [HPB.out]; exact show 1 ≤ 60000 by decide)).mono ?_); rintro e w3 ⟨r, rfl, vb, rfl, ho, u3⟩; rw [HPB.out] at ho; obtain ⟨gb, ob, capb, curb, rfl, -, hgb, -, -, hcb⟩ := OC.at ho (Nat.succ_pos _); have kb : w3.cell? ⟨gb, ob, none⟩ = some (.int .u8 (p.seq % 256)) := (cell_of_blk hgb ob).trans (hcb 0 _ rfl); have HOB := Lib.hid ho; have U3 := Lib.hid u3; have kw3 := u3.cell0 kw; clear ho u3 hgb hcb))
        have hpl : (0 : Int) < (ps.length : Int) + 1 := by omega
        have hpd : decide (0 < ps.length + 1) = true := decide_eq_true (Nat.succ_pos _)
        go_quiet (fail)
        rcases (show (x % 10 == 9) = true ∨ (x % 10 == 9) = false by cases (x % 10 == 9) <;> simp) with h9 | h9
        all_goals
          go_wp2_with (first
            | (go_at_call 40; refine (c40 _ _ 1 _ _ (OC.keep HOB.out ((Upd.refl No w3).drewN _) (fun _ _ _ f => f)) (show 1 ≤ 60000 by decide)).mono ?_; rintro e w4 ⟨rfl, u4⟩; have V4 := Lib.hid ((((U3.out.mono (S' := From wr.heap.size) (fun _ _ f => f.elim)).drewN _)).same u4); have J4 := Lib.hid (hI.out.keep V4.out); have kx := J4.out.2.2.1.cell0 HC.out; clear u4 kw kw3 kb))
        · obtain ⟨hle4, hok4, hU4, FA4, FW4, hA4, hW4, hd4, hfa4, hfw4⟩ := J4.out
          have HA4 := Lib.hid hA4
          have HW4 := Lib.hid hW4
          have HD4 := Lib.hid (And.intro hd4 (And.intro hfa4 hfw4))
          have HO4 := Lib.hid hok4
          have HU4 := Lib.hid hU4
          clear hA4 hW4 hd4 hfa4 hfw4 hok4 hU4
          have hfit1 : Fits (p :: ps).length := show ps.length + 1 ≤ 60000 by omega
          refine (c41 _ _ _ _ HA4.out hfit1 p ps rfl (by rw [HPB.out]; exact show 1 ≤ 60000 by decide)).mono ?_
          rintro e w5 ⟨r, rfl, vc, rfl, ho, hA5, u5⟩
          rw [HPB.out] at ho
          obtain ⟨gc, oc, capc, curc, rfl, -, hgc, -, -, hcc⟩ := OC.at ho (Nat.succ_pos _)
          have kc : w5.cell? ⟨gc, oc, none⟩ = some (.int .u8 (p.seq % 256)) := (cell_of_blk hgc oc).trans (hcc 0 _ rfl)
          have hW5 := HW4.out.keep u5 (fun k _ hk e => HD4.out.1 k e hk)
          obtain ⟨gw2, ow2, caw, cur5, he, -, hgw5, hfit5, -, hcw5⟩ := hW5.at (Nat.succ_pos _)
          injection he with he _ he3
          injection he with he
          injection he with he5 he6
          subst he5; subst he6; subst he3
          have kw5 : w5.cell? ⟨gw, ow, none⟩ = some (.int .u16 p.seq) := (cell_of_blk hgw5 ow).trans (hcw5 0 _ rfl)
          have HA5 := Lib.hid hA5
          have U5 := Lib.hid u5
          have HW5 := Lib.hid hW5
          have HG5 := Lib.hid hgw5
          clear ho hgc hcc hA5 u5 hW5 hgw5 hcw5 kx
          by_cases hc1 : capw = 1
          all_goals
            go_wp2_with fail
            go_quiet (fail)
            go_wp2_with (first
              | (go_at_call 43; refine (c43 _ _ _ _ (HA5.out.keep ((Upd.refl No w5).drewN _) (fun _ _ _ f => f))).mono ?_; rintro e w6 ⟨rfl, rfl⟩))
            exact ⟨⟨k + 1, ps, by omega, by go_num, Lib.hid ((I5.shift hps HO4.out HU4.out HD4.out.1 HD4.out.2.1 HD4.out.2.2 HA5.out U5.out (OC.tl HW5.out (fun hne => by first | rfl | (exfalso; omega)) HG5.out (by omega) (by omega))).keep ((Upd.refl _ _).drewN _))⟩, by simp [intOf]; omega⟩
        · obtain ⟨hle4, hok4, hU4, FA4, FW4, hA4, hW4, hd4, hfa4, hfw4⟩ := J4.out
          have HA4 := Lib.hid hA4
          have HW4 := Lib.hid hW4
          have HD4 := Lib.hid (And.intro hd4 (And.intro hfa4 hfw4))
          have HO4 := Lib.hid hok4
          have HU4 := Lib.hid hU4
          clear hA4 hW4 hd4 hfa4 hfw4 hok4 hU4
          go_loopw [13, 14] (fun may j wr2 => ∃ jn : Nat, jn ≤ (p :: ps).length ∧ j = .int .i64 jn ∧ may = .bool (mayJ n x (p :: ps) jn) ∧ Hid (Upd No w4 wr2)) (fun _ j _ => (p :: ps).length - (intOf j).toNat)
          case atStart => exact ⟨0, Nat.zero_le _, rfl, by rw [mayJ_zero]; rfl, Lib.hid (Upd.refl _ _)⟩
          case round =>
            obtain ⟨jn, hjn, rfl, rfl, hIJ⟩ := hrel
            by_cases hlj : jn < (p :: ps).length
            · skip
              obtain ⟨y, hy⟩ : ∃ y, (p :: ps)[jn]? = some y := ⟨_, List.getElem?_eq_getElem hlj⟩
              obtain ⟨gw2, ow2, caw, he, -, -, -, hcw⟩ := (HW4.out.keep hIJ.out (fun _ _ _ f => f)).rc.at (by omega)
              injection he with he _ he3
              injection he with he
              injection he with he5 he6
              subst he5; subst he6; subst he3
              have ky : wr.cell? ⟨gw, ow + jn, none⟩ = some (.int .u16 y.seq) := hcw jn _ (by unfold u16s; rw [List.map_map, List.getElem?_map, hy]; rfl)
              have kx2 := (HU4.out.then0 hIJ.out).cell0 HC.out
              have hjl : (jn : Int) < ps.length + 1 := by simp at hlj; omega
              have HM := Lib.hid (mayJ_succ (n := n) (x := x) hy)
              clear hy hcw kx
              cases hmj : mayJ n x (p :: ps) jn
              · rw [hmj] at HM
                have HJ := Lib.hid hmj
                clear hmj
                go_wp2_with fail
                go_quiet (fail)
                go_wp2
                exact ⟨⟨jn + 1, by omega, by go_num, by rw [HM.out]; rfl, Lib.hid (hIJ.out.drewN _)⟩, by simp [intOf]; simp at hlj; omega⟩
              · rw [hmj] at HM
                have HJ := Lib.hid hmj
                clear hmj
                go_wp2_with fail
                go_quiet (fail)
                go_wp2
                exact ⟨⟨jn + 1, by omega, by go_num, by rw [HM.out]; first | rfl | simp, Lib.hid (hIJ.out.drewN _)⟩, by simp [intOf]; simp at hlj; omega⟩
            · obtain rfl : jn = (p :: ps).length := by omega
              have U45 := hIJ
              have kx5 := (HU4.out.then0 hIJ.out).cell0 HC.out
              have hgl5 := World.block_lt_of_cell? _ _ kx5
              have A5 := Lib.hid (HA4.out.keep hIJ.out (fun _ _ _ f => f))
              have W5 := Lib.hid (HW4.out.keep hIJ.out (fun _ _ _ f => f))
              have U5 := Lib.hid (HU4.out.then0 hIJ.out)
              have hs5 := hIJ.out.size
              have hplen : (p :: ps).length + 1 ≤ 60000 := by simp only [List.length_cons, List.length_nil]; omega
              have hm1 : (p :: ps).length + 1 ≤ maxLen := by unfold maxLen; omega
              have hm2 : ((p :: ps).length + 1) * 2 ≤ 140737488355328 := by omega
              have e0 := mayJ_all n x (p :: ps)
              rw [e0]
              clear e0 kx
              simp only [List.length_cons, List.length_nil] at hm1 hm2
              simp only [List.length_cons, List.length_nil]
              cases hmp : mayPut ⟨n, p :: ps⟩ x
              · have HP := Lib.hid hmp
                clear hmp
                go_wp2_with (first
                  | (go_at_call 42; refine (c42no _ _ ⟨n, p :: ps⟩ FA4 _ _ (A5.out.keep ((Upd.refl No _).alloc _) (fun _ _ _ f => f)) (Nat.le_of_succ_le hplen) HP.out).mono ?_; rintro e w7 ⟨rfl, u7⟩; have U7 := Lib.hid u7; have N7 := Lib.hid (OC.keep (OC.new wr 1 [.int .u8 (x % 256)] 5 1 rfl (by decide)) u7 (fun _ _ _ f => f)); clear u7)
                  | (go_at_call 40; refine (c40 _ _ 1 _ _ N7.out (show 1 ≤ 60000 by decide)).mono ?_; rintro e w8 ⟨rfl, u8⟩; have U8 := Lib.hid ((((Upd.refl (From wr.heap.size) wr).alloc (.cells #[.int .u8 (x % 256)] 5)).then0 U7.out).trans u8 (fun k hk e => absurd (show k = wr.heap.size from e) (Nat.ne_of_lt hk))); clear u8)
                  | (go_at_call 43; refine (c43 _ _ _ _ (A5.out.bound.keep U8.out (fun k _ hk e => absurd e (Nat.not_le.2 hk.2)))).mono ?_; rintro e w9 ⟨rfl, rfl⟩))
                exact ⟨⟨k + 1, p :: ps, by omega, by go_num, Lib.hid ((J4.out.keep (hIJ.out.mono (fun _ _ f => f.elim))).keep U8.out).next⟩, by simp [intOf]; omega⟩
              · have HP := Lib.hid hmp
                clear hmp
                go_wp2_with (first
                  | (go_at_call 42; refine (c42 _ _ ⟨n, p :: ps⟩ FA4 (Only wr.heap.size) _ _ [x % 256] (A5.out.keep ((Upd.refl No _).alloc _) (fun _ _ _ f => f)) hplen HP.out (RC.new wr 1 [.int .u8 (x % 256)] 5 1 rfl (by decide)) (show 1 ≤ 60000 by decide)).mono ?_; rintro e w7 ⟨rfl, a7, u7⟩; have U7 := Lib.hid u7; have A7 := Lib.hid (a7.mono (F' := fun k => FA4 k ∨ wr.heap.size + 1 ≤ k) (fun k _ hk => hk.elim .inl (fun h => .inr (by simpa using h)))); have N7 := Lib.hid (OC.keep (OC.new wr 1 [.int .u8 (x % 256)] 5 1 rfl (by decide)) u7 (fun k _ e h => by have h1 : k = wr.heap.size := e; have := (HD4.out.2.1 k h).2; omega)); have hs7 := u7.size; simp only [World.size_alloc] at hs7; clear u7 a7)
                  | (go_at_call 40; refine (c40 _ _ 1 _ _ N7.out (show 1 ≤ 60000 by decide)).mono ?_; rintro e w8 ⟨rfl, u8⟩; have U8 := Lib.hid u8; have UW8 := Lib.hid (((U5.out.alloc (.cells #[.int .u8 (x % 256)] 5)).trans U7.out (fun k hk e => absurd (HD4.out.2.1 k e).1 (Nat.not_le.2 hk))).trans u8 (fun k hk e => absurd (Nat.lt_of_lt_of_le hk U5.out.size) (Nat.not_lt.2 (Nat.le_of_eq (show k = wr.heap.size from e).symm)))); have kx8 := UW8.out.cell0 HC.out; have hgl8 := World.block_lt_of_cell? _ _ kx8; have W8 := Lib.hid (((W5.out.bound.keep ((Upd.refl No wr).alloc (.cells #[.int .u8 (x % 256)] 5)) (fun _ _ _ f => f)).keep U7.out (fun k _ hk e => HD4.out.1 k e hk.1)).keep u8 (fun k _ hk e => absurd hk.2 (Nat.not_lt.2 (Nat.le_of_eq (show k = wr.heap.size from e).symm)))); have A8 := Lib.hid (A7.out.bound.keep u8 (fun k _ hk e => hk.1.elim (fun h => absurd (Nat.lt_of_lt_of_le (HD4.out.2.1 k h).2 hs5) (Nat.not_lt.2 (Nat.le_of_eq (show k = wr.heap.size from e).symm))) (fun h => absurd (show k = wr.heap.size from e) (Nat.ne_of_gt h)))); clear u8)
                  | (refine wpList_at (.call { callee := .builtin .append, args := #[.tmp 148, .tmp 153], argTypes := #[88, 88] }) rfl ?_; refine wpList_append_oc rfl (.tmp 148) (.tmp 153) 88 rfl Try.underlying88 info36 rfl (by decide) rfl rfl (W8.out.keep ((Upd.refl No w8).alloc (.cells #[.int .u16 x] 36)) (fun _ _ _ f => f)) (RC.new w8 1 [.int .u16 x] 36 1 rfl (by decide)) (by simp [Value.oneCell']) hm1 hm2 ?_; intro v10 w10 h10 u10; obtain ⟨a10, cap10, rfl, -⟩ := h10.slice; have W10 := Lib.hid h10; have U10 := Lib.hid u10; clear h10 u10)
                  | (go_at_call 43; refine (c43 _ _ _ _ ((A8.out.keep ((Upd.refl No w8).alloc (.cells #[.int .u16 x] 36)) (fun _ _ _ f => f)).keep U10.out (fun k _ hk e => hk.1.elim (fun h => HD4.out.1 k h e.1) (fun h => absurd e.2 (Nat.not_lt.2 (Nat.le_of_succ_le h)))))).mono ?_; rintro e w11 ⟨rfl, rfl⟩))
                exact ⟨⟨k + 1, p :: ps ++ [⟨x, [x % 256]⟩], by omega, by go_num, Lib.hid (I5.more (w5 := wr) ⟨hx0, hx1⟩ hle4 HO4.out U5.out HD4.out.1 (fun j hj => ⟨(HD4.out.2.1 j hj).1, Nat.lt_of_lt_of_le (HD4.out.2.1 j hj).2 hs5⟩) (fun j hj => ⟨(HD4.out.2.2 j hj).1, Nat.lt_of_lt_of_le (HD4.out.2.2 j hj).2 hs5⟩) A7.out (((Upd.refl FA4 wr).alloc _).same U7.out) U8.out ((Upd.refl No w8).alloc _) hs7 (W10.out.mono (fun k _ hk => hk.elim (fun h => .inl h.1) .inr)) (U10.out.mono (fun k _ hk => hk.1)))⟩, by simp [intOf]; omega⟩
    · obtain rfl : k = l.length := by omega
      go_wp2_with (go_at_call 9; refine (c9 _).mono ?_; rintro e w3 ⟨rfl, u⟩; have U3 := Lib.hid u; clear u)
      go_ret
      exact ⟨rfl, hI.out.2.2.1.then0 U3.out⟩
end Go.Proofs.Ytaakmkkgnboedaa
