/- The reference reads an op's line: it answers. The reference reads ops, a line each: it answers. Drawn programs: the parts. -/
import Derived.Test.YtlofelnfcdbedaaGreatK6
namespace Go.Proofs.YtlofelnfcdbedaaGreat.S
open Go.RowKit Go.BigFrame Go.Sort
set_option linter.unusedVariables false
set_option linter.unusedSimpArgs false

set_option maxRecDepth 100000 in
set_option maxHeartbeats 4000000 in
theorem c_l1Read (b n c K : Nat) (w : World) (hO : OwnP (isS K) w 0 9 1 (.slice (some ⟨b, 0, none⟩) n c) n) (hn : 1 ≤ n) (hn' : n ≤ 100) (hK : K ≤ 1000) : Calls Tryz.prog 75 #[.slice (some ⟨b, 0, none⟩) n c] w (SomeIns w) := by
  obtain ⟨s0, hs0, h0⟩ := hO.cellS 0 (by omega)
  have hnz : (0 : Int) < (n : Int) := by omega
  have hnn : 0 < n := by omega
  have hblt : b < w.heap.size := World.block_lt_of_cell? w _ h0
  have hX0 := Blk.new w 85 #[.int .i64 0, .int .i64 0, .int .i64 0, .int .i64 0, .int .i64 0, .int .i64 0]
  have hB0 := below_drew (below_new w (.cells #[.int .i64 0, .int .i64 0, .int .i64 0, .int .i64 0, .int .i64 0, .int .i64 0] 85))
  have hY : Blk ((w.alloc (.cells #[.int .i64 0, .int .i64 0, .int .i64 0, .int .i64 0, .int .i64 0, .int .i64 0] 85)).alloc (.cells #[.int .i64 0, .int .i64 0, .int .i64 0, .int .i64 0, .int .i64 0, .int .i64 0] 85)).drew (w.heap.size + 1) 85 #[.int .i64 0, .int .i64 0, .int .i64 0, .int .i64 0, .int .i64 0, .int .i64 0] := by
    have := (Blk.new (w.alloc (.cells #[.int .i64 0, .int .i64 0, .int .i64 0, .int .i64 0, .int .i64 0, .int .i64 0] 85)) 85 #[.int .i64 0, .int .i64 0, .int .i64 0, .int .i64 0, .int .i64 0, .int .i64 0]).drew
    rwa [World.size_alloc] at this
  go_enter Tryz.func75, Tryz.ntmps75
  go_upto_region 1 with fail
  go_cut [3] (fun s W => ∃ g3 : Nat, s = .pointer (some ⟨g3, 0, none⟩) ∧ Reading w w.heap.size g3 W)
  case first =>
    go_region_held3 (fun w' => w'.cell? ⟨b, 0, none⟩ = some (.string s0)) (with_reducible (repeat (first | assumption | apply cell_alloc | apply cell_drew | (refine cell_set ?_ _ (by simp; omega))))) (first | (go_at_call 96; (with_reducible refine (c_l1Words _).mono ?_); rintro e w1 ⟨b1, c1, rfl, hO1, hb1⟩; have hX0 := Blk.bl (by with_reducible (repeat (first | exact hX0 | apply Blk.drew | apply Blk.alloc))) hb1; have hB0 := below_step (w := w) (by (with_reducible (repeat (first | exact Below.refl _ _ | assumption | apply below_alloc | apply below_drewN | apply below_drew | (refine below_step ?_ (by assumption)))))) hb1; have hz := cell_below hB0 ⟨b, 0, none⟩ _ h0; have hbl := World.block_lt_of_cell? _ _ hz; have hr := hO1.reads; first | (have hY := Blk.bl (by with_reducible exact hY) hb1; obtain ⟨y0, y1, y2, y3, y4, y5⟩ := hY.cells6; have yf := hY.frozen) | skip) | (go_at_call 95; (with_reducible refine (c_l1Find _ _ _ _ _ _ (by with_reducible (first | assumption | exact AtP.alloc (by assumption) _)) ?_).mono ?_); omega; rintro e w' ⟨r, rfl, hf0, hf1, rfl⟩))
    all_goals
      go_wp2_with fail
      go_meet
      have hlt := hX0.lt
      have hi0 := InsAt.of hX0
      refine ⟨_, rfl, ?_⟩
      first
        | with_reducible exact Reading.mk' (InsAt.new w1 _ _ _ _ _ _) (hi0.alloc _) (by omega) (Nat.le_refl _) (by omega) (below_alloc hB0 _)
        | (have hi1 := Reading.mk' (InsAt.of hY) hi0 (by omega) (Nat.le_refl _) (by omega) hB0
           with_reducible exact (((((hi1.set 0 _).set 1 _).set 2 _).set 3 _).set 4 _).set 5 _)
  case rest =>
    obtain ⟨g3, rfl, hR⟩ := hcut
    go_wp2
    go_loopw [4] (fun i W => ∃ k : Nat, (k = 1 ∨ k = 2 ∨ k = 4 ∨ k = 8) ∧ i = .int .i64 k ∧ Reading w w.heap.size g3 W) (fun i _ => 8 - (intOf i).toNat)
    case atStart => exact ⟨1, by omega, rfl, hR⟩
    case round =>
      obtain ⟨k, hk, rfl, hR⟩ := hrel
      have hz := cell_below hR.2.2.2.2.2 ⟨b, 0, none⟩ _ h0
      by_cases h8 : k = 8
      · subst h8
        go_upto_block 2 with fail
        go_cut [] (fun W => Reading w w.heap.size g3 W)
        case first =>
          refine wp_block ?_
          refine rd_use (rd9 (Post := SomeIns w) hO hn hn' hK hR ?_) (fun e a w' he h => by cases e <;> first | exact h | exact h.elim | exact (he rfl).elim)
          intros
          go_wp2_with fail
          go_meet
          assumption
        case rest =>
          have hR := hcut
          obtain ⟨a0, a1, a2, a3, a4, a5, hI⟩ := hR.1
          obtain ⟨d0, d1, d2, d3, d4, d5, hJ⟩ := hR.2.1
          obtain ⟨z0, z1, z2, z3, z4, z5⟩ := hI.cells6
          obtain ⟨y0, y1, y2, y3, y4, y5⟩ := hJ.cells6
          have yf := hJ.frozen
          go_wp2
          exact Reading.ended hR a0 a1 a2 a3 a4 a5 _ rfl
      · have hd : decide ((k : Int) ≤ 4) = true := by simp; omega
        have s1 := itoa_len k (by omega) (by omega)
        have c0 := fun d os => cell_regrown hz d os
        go_upto_region 5 with fail
        go_cut [43] (fun s W => ∃ x : Bool, s = .bool x ∧ (x = true → 1 ≤ s0.size) ∧ Reading w w.heap.size g3 W)
        case first =>
          rcases Bool.eq_false_or_eq_true (s0.toList == ((⟨#[108, 111, 97, 100]⟩ : ByteArray) ++ bs (Lib.itoa (k : Int))).toList) with hq | hq
          all_goals
            refine wp_region_quiet_below (by kernel_rfl) (by kernel_rfl) ?_; (repeat (go_big_quiet_step ((go_at_call 97; exact Calls.regrown_of (c_l1Dec _ _ (by omega) (by omega)))))); refine wpQuiet_nil ?_; intro _ hw'; obtain ⟨⟨nd, no⟩, hw''⟩ := hw'; subst hw''
            go_wp2_with fail
            go_meet
            refine ⟨_, rfl, fun hx => ?_, hR.bl (below_regrown _ _ _)⟩
            first
              | (rw [eqS hq, ByteArray.size_append, lsz4]; omega)
              | (rw [eqS hx, ByteArray.size_append, lsz5]; omega)
        case rest =>
          obtain ⟨x, rfl, hx1, hR⟩ := hcut
          have hz := cell_below hR.2.2.2.2.2 ⟨b, 0, none⟩ _ h0
          cases x with
          | false =>
            go_wp2
            exact ⟨⟨k * 2, by omega, by congr 1, hR⟩, by simp [intOf]; omega⟩
          | true =>
            go_upto_if 43 with fail
            refine wp_cond_true (by rfl) ?_
            refine rd_use (rd6 (Post := SomeIns w) hO hn hn' hK hR hz hs0 (hx1 rfl) ?_) (fun e a w' he h => by cases e <;> first | exact h | exact h.elim | exact (he rfl).elim)
            intro u44 u45 u46 u47 u48 u49 u50 u51 u52 u53 u54 u55 u56 u57 W' hR'
            go_wp2
            exact ⟨⟨k * 2, by omega, by congr 1, hR'⟩, by simp [intOf]; omega⟩
end Go.Proofs.YtlofelnfcdbedaaGreat.S
namespace Go.Proofs.YtlofelnfcdbedaaGreat.S
open Go.RowKit Go.BigFrame Go.Sort
set_option linter.unusedVariables false
set_option linter.unusedSimpArgs false

theorem res_got {W' : World} {g : Nat} {a b c d e f : Int} {ok : Bool} (tmps : Array Value) (ht : tmps[2]? = some (.pointer (some ⟨g, 0, none⟩))) (ht3 : tmps[3]? = some (.bool ok)) (h : Blk W' g 85 #[.int .i64 a, .int .i64 b, .int .i64 c, .int .i64 d, .int .i64 e, .int .i64 f]) : (results Tryz.f65 tmps).run Tryz.prog W' = .ok (.tuple #[In.v ⟨a, b, c, d, e, f⟩, .bool ok]) W' := by
  obtain ⟨h0, h1, h2, h3, h4, h5⟩ := h.cells6
  have hr : (Tryz.f65).results = #[.cell 2 85, .tmp 3] := rfl
  simp [results, hr, ht, ht3, go_sem, h0, h1, h2, h3, h4, h5, In.v]
set_option maxHeartbeats 1000000 in
theorem c_LineGet (s : ByteArray) (K : Nat) (w : World) (hs : s.size ≤ K) (hK : K ≤ 1000) : Calls Tryz.prog 65 #[.string s] w (SomeGot w) := by
  have hX0 := Blk.new w 85 #[.int .i64 0, .int .i64 0, .int .i64 0, .int .i64 0, .int .i64 0, .int .i64 0]
  have hB0 := below_new w (.cells #[.int .i64 0, .int .i64 0, .int .i64 0, .int .i64 0, .int .i64 0, .int .i64 0] 85)
  go_enter Tryz.func65, Tryz.ntmps65
  go_upto_region 2 with (first | (go_at_call 76; (with_reducible refine (c_l1Cut _ _ _ K _ hs hK ?_ ?_).mono ?_); omega; omega; rintro e w1 ⟨v, n, rfl, hn1, hn2, hO, hb⟩; obtain ⟨b1, c1, rfl, _, _⟩ := hO.form hn1; have hX1 := hX0.bl hb; have hB1 := below_step (w := w) hB0 hb) | (go_at_call 75; (with_reducible refine (c_l1Read _ _ _ K _ (hO.low (Nat.zero_le _)) ?_ ?_ hK).mono ?_); omega; omega; rintro e w2 ⟨x, rfl, hb2⟩; obtain ⟨x0, x1, x2, x3, x4, x5⟩ := x; have hX2 := hX1.bl hb2; have hB2 := below_step (w := w) hB1 hb2; have hL2 := hX2.lt; have hN := Blk.new w2 85 #[.int .i64 x0, .int .i64 x1, .int .i64 x2, .int .i64 x3, .int .i64 x4, .int .i64 x5]; have hX3 := hX2.alloc (.cells #[.int .i64 x0, .int .i64 x1, .int .i64 x2, .int .i64 x3, .int .i64 x4, .int .i64 x5] 85); have hB3 := below_alloc hB2 (.cells #[.int .i64 x0, .int .i64 x1, .int .i64 x2, .int .i64 x3, .int .i64 x4, .int .i64 x5] 85)))
  have hyf := hX3.frozen
  obtain ⟨d0, d1, d2, d3, d4, d5⟩ := hN.cells6
  go_wp2_with (first | (go_at_call 77; (with_reducible refine (c_l1InsOk _ _ _ _ _ _ _).mono ?_); rintro e w4 ⟨rfl, hb4⟩; have hN := hN.bl hb4; have hX4 := hX3.bl hb4; have hB4 := below_step (w := w) hB3 hb4; have hyf := hX4.frozen; obtain ⟨y0, y1, y2, y3, y4, y5⟩ := hX4.cells6; obtain ⟨d0, d1, d2, d3, d4, d5⟩ := hN.cells6) | (go_at_call 78; (with_reducible refine (c_l1Line _ _ _ _ _ _ _ (by assumption)).mono ?_); rintro e w5 ⟨r, rfl, hr, hb5⟩; have hN := hN.bl hb5; have hX5 := hX4.bl hb5; have hB5 := below_step (w := w) hB4 hb5; have hyf := hX5.frozen; obtain ⟨y0, y1, y2, y3, y4, y5⟩ := hX5.cells6; obtain ⟨d0, d1, d2, d3, d4, d5⟩ := hN.cells6))
  · exact bodyPost_ret (res_got _ rfl rfl (hX5.six _ _ _ _ _ _)) rfl ⟨⟨_, _, _, _, _, _⟩, _, rfl, below_six hB5 (Nat.le_refl _) _ _ _ _ _ _⟩
  · exact bodyPost_ret (res_got _ rfl rfl (hX5.six _ _ _ _ _ _)) rfl ⟨⟨_, _, _, _, _, _⟩, _, rfl, below_six hB5 (Nat.le_refl _) _ _ _ _ _ _⟩
  · exact bodyPost_ret (res_got _ rfl rfl (hX4.six _ _ _ _ _ _)) rfl ⟨⟨_, _, _, _, _, _⟩, _, rfl, below_six hB4 (Nat.le_refl _) _ _ _ _ _ _⟩

set_option maxHeartbeats 1000000 in
theorem c_l20Read (A : Option Addr) (n c K : Nat) (w : World) (h : AtP (isS K) w A n 1) (hK : K ≤ 1000) (hn : n ≤ 1000) : Calls Tryz.prog 50 #[.slice A n c] w (SomeProg w n) := by
  go_enter Tryz.func50, Tryz.ntmps50
  go_wp2
  go_loopw [3, 4] (fun v i wr => ∃ (k : Nat), i = .int .i64 k ∧ k ≤ n ∧ OwnI wr w.heap.size 85 6 v k ∧ Below w.heap.size w wr) (fun v i _ => n - (intOf i).toNat)
  case atStart => exact ⟨0, rfl, by omega, (OwnP.empty isI w _ _ _ (Nat.le_refl _)), below_new _ _⟩
  case round =>
    obtain ⟨k, rfl, hlk, hO, hB⟩ := hrel
    by_cases hk : k < n
    · have hd : decide (k < n) = true := decide_eq_true hk
      obtain ⟨ad, rfl, hx⟩ := h (by omega)
      obtain ⟨u, ⟨s, rfl, hs⟩, hc⟩ := hx k (by omega)
      have hc := cell_below hB _ _ hc
      clear hx
      go_wp2_with (first | (at_builtin; (with_reducible refine app_p isI isI_one elt_Ins rfl _ _ rfl _ _ _ w.heap.size u3 k rfl _ _ _ rfl ?_ ?_ ?_ hO1 ?_ ?_ hB1.size ?_); simp; rfl; simp [isI]; omega; omega; intro v' w' hO' hG') | (go_at_call 65; (with_reducible refine (c_LineGet _ K _ hs hK).mono ?_); rintro e w1 ⟨x, ok, rfl, hb⟩; obtain ⟨x0, x1, x2, x3, x4, x5⟩ := x; have hN := Blk.new w1 85 #[.int .i64 x0, .int .i64 x1, .int .i64 x2, .int .i64 x3, .int .i64 x4, .int .i64 x5]; obtain ⟨d0, d1, d2, d3, d4, d5⟩ := hN.cells6; have hB1 := below_alloc (below_step (w := w) hB hb) (.cells #[.int .i64 x0, .int .i64 x1, .int .i64 x2, .int .i64 x3, .int .i64 x4, .int .i64 x5] 85); have hO1 := (hO.bl hb).alloc (.cells #[.int .i64 x0, .int .i64 x1, .int .i64 x2, .int .i64 x3, .int .i64 x4, .int .i64 x5] 85)))
      exact ⟨⟨k + 1, by go_num, by omega, hO', below_app hB1 hO1 hG'⟩, by simp [intOf]; omega⟩
    · have hd : decide (k < n) = false := decide_eq_false hk
      obtain rfl : k = n := by omega
      go_wp2
      go_ret
      exact ⟨_, rfl, hO, hB⟩
end Go.Proofs.YtlofelnfcdbedaaGreat.S
namespace Go.Proofs.YtlofelnfcdbedaaGreat.S
open Go.RowKit Go.BigFrame Go.Sort
set_option linter.unusedVariables false
set_option linter.unusedSimpArgs false

set_option maxHeartbeats 1000000 in
theorem c_l20Lines (w : World) : Calls Tryz.prog 49 #[] w (Lines w) := by
  go_enter Tryz.func49, Tryz.ntmps49
  go_wp2
  go_ret
  refine lines_of _ _ ?_ rfl ?_ ?_
  · simp only [World.size_alloc]
  · repeat' (first | exact trivial | (refine And.intro ⟨_, _, _, rfl, by omega, by decide, by decide, ?_⟩ ?_))
    all_goals (repeat (first | (refine atP_lit 20 _ _ _ _ _ ?_ ?_ ?_; simp only [World.size_alloc]; rfl; rfl) | refine AtP.alloc ?_ _))
  · with_reducible (repeat (first | exact RowKit.Below.refl _ _ | refine below_alloc ?_ _))

theorem c_l20Imm (B g M : Nat) (w : World) (h : Rd B g M w) (hM : M ≤ 1090000000000) : Calls Tryz.prog 51 #[.pointer (some ⟨g, 0, none⟩)] w (Oned B g M 0 4294967295 w) := by
  have hgl := h.lt
  have h0 := Fr.refl w g
  go_enter Tryz.func51, Tryz.ntmps51
  go_wp2_with (go_at_call 31; (with_reducible refine (c_one_lit (0) (4294967295) _ _ _ _ _ _ _ _ ?_ ?_ (by with_reducible (repeat (first | assumption | apply Rd.alloc | apply Rd.drewN | apply Rd.drew))) ?_).mono ?_); simp; decide; omega; rintro e W ⟨r, rfl, rl, rh, rR, rG⟩; have rF := Fr.call (by with_reducible (repeat (first | assumption | apply Fr.alloc | apply Fr.drewN | apply Fr.drew))) rG; have rL := rR.lt; have rS := rG.size; (try simp only [World.size_alloc] at rS))
  go_ret
  exact ⟨r, rfl, rl, rh, rR, rF⟩

theorem res_alu {W' : World} {g : Nat} {a b c d e f : Int} (tmps : Array Value) (ht : tmps[2]? = some (.pointer (some ⟨g, 0, none⟩))) (h : Blk W' g 85 #[.int .i64 a, .int .i64 b, .int .i64 c, .int .i64 d, .int .i64 e, .int .i64 f]) : (results Tryz.f52 tmps).run Tryz.prog W' = .ok (In.v ⟨a, b, c, d, e, f⟩) W' := by
  obtain ⟨h0, h1, h2, h3, h4, h5⟩ := h.cells6
  have hr : (Tryz.f52).results = #[.cell 2 85] := rfl
  simp [results, hr, ht, go_sem, h0, h1, h2, h3, h4, h5, In.v]
set_option maxHeartbeats 1000000 in
theorem c_l20Alu (B g M : Nat) (w : World) (h : Rd B g M w) (hM : M ≤ 1080000000000) : Calls Tryz.prog 52 #[.pointer (some ⟨g, 0, none⟩)] w (InsDrawn B g M 5 w) := by
  have hgl := h.lt
  have h0 := Fr.refl w g
  have hT := Blk.new w 85 #[.int .i64 0, .int .i64 0, .int .i64 0, .int .i64 0, .int .i64 0, .int .i64 0]
  go_enter Tryz.func52, Tryz.ntmps52
  go_wp2_with (first | ((go_at_call 31; (with_reducible refine (c_one_lit (0) (8) _ _ _ _ _ _ _ _ ?_ ?_ (by with_reducible (repeat (first | assumption | apply Rd.alloc | apply Rd.drewN | apply Rd.drew))) ?_).mono ?_); simp; decide; omega; rintro e W ⟨r, rfl, rl, rh, rR, rG⟩; have rF := Fr.call (by with_reducible (repeat (first | assumption | apply Fr.alloc | apply Fr.drewN | apply Fr.drew))) rG; have rL := rR.lt; have rS := rG.size; (try simp only [World.size_alloc] at rS)); have hT := Blk.grown (g := w.heap.size) (by with_reducible (repeat (first | exact hT | apply Blk.alloc))) rG (by simp; omega); obtain ⟨t0, t1, t2, t3, t4, t5⟩ := hT.cells6; have tf := hT.frozen; have hX := Blk.grown (g := w1.heap.size) (by with_reducible (repeat (first | exact hX | apply Blk.alloc))) rG (by simp; omega); obtain ⟨x0, x1, x2, x3, x4, x5⟩ := hX.cells6; have xf := hX.frozen) | ((go_at_call 31; (with_reducible refine (c_one_lit (0) (8) _ _ _ _ _ _ _ _ ?_ ?_ (by with_reducible (repeat (first | assumption | apply Rd.alloc | apply Rd.drewN | apply Rd.drew))) ?_).mono ?_); simp; decide; omega; rintro e W ⟨r, rfl, rl, rh, rR, rG⟩; have rF := Fr.call (by with_reducible (repeat (first | assumption | apply Fr.alloc | apply Fr.drewN | apply Fr.drew))) rG; have rL := rR.lt; have rS := rG.size; (try simp only [World.size_alloc] at rS)); have hT := Blk.grown (g := w.heap.size) (by with_reducible (repeat (first | exact hT | apply Blk.alloc))) rG (by simp; omega); obtain ⟨t0, t1, t2, t3, t4, t5⟩ := hT.cells6; have tf := hT.frozen) | (go_at_call 51; (with_reducible refine (c_l20Imm _ _ _ _ (by with_reducible (repeat (first | assumption | apply Rd.alloc | apply Rd.drewN | apply Rd.drew))) ?_).mono ?_); omega; rintro e w1 ⟨r, rfl, rl, rh, rR, rG⟩; have rF := Fr.call (by with_reducible (repeat (first | assumption | apply Fr.alloc | apply Fr.drewN | apply Fr.drew))) rG; have rL := rR.lt; have rS := rG.size; (try simp only [World.size_alloc] at rS); have hT := Blk.grown (g := w.heap.size) (by with_reducible (repeat (first | exact hT | apply Blk.alloc))) rG (by simp; omega); obtain ⟨t0, t1, t2, t3, t4, t5⟩ := hT.cells6; have tf := hT.frozen) | ((go_at_call 13; (with_reducible refine (c_pick 2 _ _ _ _ (by with_reducible (repeat (first | assumption | apply Rd.alloc | apply Rd.drewN | apply Rd.drew))) ?_).mono ?_); omega; rintro e W ⟨r, rfl, rl, rh, rz, rR, rG⟩; have rF := Fr.call (by with_reducible (repeat (first | assumption | apply Fr.alloc | apply Fr.drewN | apply Fr.drew))) rG; have rL := rR.lt; have rS := rG.size; (try simp only [World.size_alloc] at rS)); have hT := Blk.grown (g := w.heap.size) (by with_reducible (repeat (first | exact hT | apply Blk.alloc))) rG (by simp; omega); obtain ⟨t0, t1, t2, t3, t4, t5⟩ := hT.cells6; have tf := hT.frozen; have hX := Blk.grown (Blk.new w1 _ _) rG (by simp; omega); obtain ⟨x0, x1, x2, x3, x4, x5⟩ := hX.cells6; have xf := hX.frozen) | ((go_at_call 13; (with_reducible refine (c_pick 11 _ _ _ _ (by with_reducible (repeat (first | assumption | apply Rd.alloc | apply Rd.drewN | apply Rd.drew))) ?_).mono ?_); omega; rintro e W ⟨r, rfl, rl, rh, rz, rR, rG⟩; have rF := Fr.call (by with_reducible (repeat (first | assumption | apply Fr.alloc | apply Fr.drewN | apply Fr.drew))) rG; have rL := rR.lt; have rS := rG.size; (try simp only [World.size_alloc] at rS)); have hT := Blk.grown (g := w.heap.size) (by with_reducible (repeat (first | exact hT | apply Blk.alloc))) rG (by simp; omega); obtain ⟨t0, t1, t2, t3, t4, t5⟩ := hT.cells6; have tf := hT.frozen))
  · have hne : w.heap.size ≠ w1.heap.size := by omega
    exact bodyPost_ret (res_alu _ rfl (((hT.far (p := ⟨w1.heap.size, 2, none⟩) hne _).far (p := ⟨w1.heap.size, 4, none⟩) hne _).six _ _ _ _ _ _)) rfl ⟨⟨_, _, _, _, _, _⟩, rfl, ((rR.set (q := ⟨w1.heap.size, 2, none⟩) _ (by simp; omega)).set (q := ⟨w1.heap.size, 4, none⟩) _ (by simp; omega)).six hgl _ _ _ _ _ _, ((rF.set ⟨w1.heap.size, 2, none⟩ _ (by simp; omega)).set ⟨w1.heap.size, 4, none⟩ _ (by simp; omega)).six (Nat.le_refl _) _ _ _ _ _ _⟩
  · exact bodyPost_ret (res_alu _ rfl (hT.six _ _ _ _ _ _)) rfl ⟨⟨_, _, _, _, _, _⟩, rfl, (rR.mono (by omega)).six hgl _ _ _ _ _ _, rF.six (Nat.le_refl _) _ _ _ _ _ _⟩
end Go.Proofs.YtlofelnfcdbedaaGreat.S
