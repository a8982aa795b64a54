/- Ranges: whether there is a number. Ranges: parts of them. -/
import Derived.Test.YtlofelnfcdbedaaGreatK15
namespace Go.Proofs.YtlofelnfcdbedaaGreat.S
open Go.RowKit Go.BigFrame Go.Sort
set_option linter.unusedVariables false
set_option linter.unusedSimpArgs false

theorem c_l2Over (k : Nat) (w : World) (hk : k ≤ 32) : Calls Tryz.prog 114 #[.int .i64 k] w fun e w' => e = .returned (.int .i64 (ovr k)) ∧ Below w.heap.size w w' := by
  rcases Nat.eq_zero_or_pos k with rfl | h0
  · go_enter Tryz.func114, Tryz.ntmps114
    go_wp2_with (first | (first | (go_at_call 41; refine (c_l2Top _).mono ?_; rintro e w' ⟨rfl, rfl⟩) | fail))
    go_ret
    exact ⟨rfl, Below.refl _ _⟩
  · obtain ⟨Q, hQ, hQ1, hQ2⟩ := pow_32 (k := k - 1) (by omega)
    have ho : ovr k = bits .xor .i64 4294967295 (msk (Q - 1)) := by unfold ovr; rw [if_neg (by omega), hQ]
    have hw1 : IntKind.i64.wrap Q = Q := by rw [IntKind.wrap_i64]; omega
    have hw2 : IntKind.i64.wrap (Q - 1) = Q - 1 := by rw [IntKind.wrap_i64]; omega
    have hz : ((k : Int) == 0) = false := by simp; omega
    have hw : IntKind.i64.wrap ((k : Int) - 1) = ((k - 1 : Nat) : Int) := by rw [IntKind.wrap_i64]; omega
    rw [ho]
    clear ho
    go_enter Tryz.func114, Tryz.ntmps114
    go_upto_region 3 with (first | (first | (go_at_call 41; refine (c_l2Top _).mono ?_; rintro e w' ⟨rfl, rfl⟩) | fail))
    go_quiet ((first | (go_at_call 41; exact Calls.quiet_of_same ((c_l2Top _).mono fun _ _ h => ⟨h.1, h.2.symm⟩)) | (go_at_call 72; exact Calls.quiet_of_same ((c_l2Mask _ _ (by omega)).mono fun _ _ h => ⟨h.1, h.2.symm⟩)) | fail))
    go_wp2_with fail
    go_ret
    exact ⟨rfl, below_drewN (Below.refl _ _) _⟩
theorem c_l2Over' (k : Nat) (w : World) (hk : k ≤ 32) : Calls Tryz.prog 114 #[.int .i64 k] w fun e w' => e = .returned (.int .i64 (ovr k)) ∧ Below w.heap.size w w' := c_l2Over k w hk
set_option maxHeartbeats 4000000 in
theorem c_l2Next (a b c d n : Int) (w : World) : Calls Tryz.prog 94 #[rgV a b c d, .int .i64 n] w fun e w' => ∃ x : Int, e = .returned (.int .i64 x) ∧ Below w.heap.size w w' := by
  have hX := Blk.new w 54 (rgC a b c d)
  have hB := below_new w (.cells (rgC a b c d) 54)
  go_enter Tryz.func94, Tryz.ntmps94
  go_wp2
  go_loopw [5, 6] (fun v i W => ∃ (x : Int) (j : Nat), v = .int .i64 x ∧ i = .int .i64 j ∧ j ≤ 33 ∧ Blk W w.heap.size 54 (rgC a b c d) ∧ Below w.heap.size w W) (fun _ i _ => 33 - (intOf i).toNat)
  case atStart => exact ⟨-1, 0, rfl, rfl, by omega, hX, hB⟩
  case round =>
    obtain ⟨x, j, rfl, rfl, hj, hX, hB⟩ := hrel
    by_cases hj32 : j ≤ 32
    · have hd : decide ((j : Int) ≤ 32) = true := by simp; omega
      obtain ⟨Q, hQ, hQ1, hQ2⟩ := pow_32 hj32
      have hw1 : IntKind.i64.wrap Q = Q := by rw [IntKind.wrap_i64]; omega
      have hw2 : IntKind.i64.wrap (Q - 1) = Q - 1 := by rw [IntKind.wrap_i64]; omega
      go_upto_region 5 with fail
      go_quiet ((first | (go_at_call 41; exact Calls.quiet_of_same ((c_l2Top _).mono fun _ _ h => ⟨h.1, h.2.symm⟩)) | (go_at_call 72; exact Calls.quiet_of_same ((c_l2Mask _ _ (by omega)).mono fun _ _ h => ⟨h.1, h.2.symm⟩)) | fail))
      go_upto_if 24 with fail
      go_cut [8] (fun v W => ∃ y : Int, v = .int .i64 y ∧ W = wr.drewN nq)
      case first =>
        rcases Nat.eq_zero_or_pos j with hj0 | hj0
        · have hz : decide ((0 : Int) < (j : Int)) = false := by simp; omega
          have hz' : decide (0 < j) = false := by simp; omega
          go_wp2_with fail
          go_meet
          exact ⟨_, rfl, rfl⟩
        · have hz : decide ((0 : Int) < (j : Int)) = true := by simp; omega
          have hz' : decide (0 < j) = true := by simp; omega
          obtain ⟨T, hT, hT1, hT2⟩ := pow_32 (k := j - 1) (by omega)
          have ht1 : IntKind.i64.wrap T = T := by rw [IntKind.wrap_i64]; omega
          have hw : IntKind.i64.wrap ((j : Int) - 1) = ((j - 1 : Nat) : Int) := by rw [IntKind.wrap_i64]; omega
          go_wp2_with fail
          · exact ⟨⟨x, j + 1, rfl, by go_num, by omega, hX.drewN _, below_drewN hB _⟩, by simp [intOf]; omega⟩
          · go_meet
            exact ⟨_, rfl, rfl⟩
      case rest =>
        obtain ⟨y, rfl, hwc⟩ := hcut
        obtain rfl := hwc
        have hX := hX.drewN nq
        have hB := below_drewN hB nq
        obtain ⟨p0, p1, p2, p3⟩ := hX.cells4
        have c2 := fun d os => cell_regrown p2 d os
        have c3 := fun d os => cell_regrown p3 d os
        go_upto_region 10 with fail
        refine wp_region_quiet_below (by kernel_rfl) (by kernel_rfl) ?_; (repeat (go_big_quiet_step (first | (go_at_call 114; exact Calls.regrown_of (c_l2Over _ _ (by omega))) | (go_at_call 41; exact Calls.regrown_of ((c_l2Top _).mono fun _ _ h => ⟨h.1, h.2 ▸ Below.refl _ _⟩))))); refine wpQuiet_nil ?_; intro _ hw'; obtain ⟨⟨nd, no⟩, hw''⟩ := hw'; subst hw''
        go_upto_region 11 with fail
        · have hX := hX.bl (below_regrown _ nd no)
          have hB := below_step hB (below_regrown _ nd no)
          exact ⟨⟨x, j + 1, rfl, by go_num, by omega, hX, hB⟩, by simp [intOf]; omega⟩
        · have hX := hX.bl (below_regrown _ nd no)
          have hB := below_step hB (below_regrown _ nd no)
          obtain ⟨r0, r1, r2, r3⟩ := hX.cells4
          have d2 := fun d os => cell_regrown r2 d os
          have d3 := fun d os => cell_regrown r3 d os
          refine wp_region_quiet_below (by kernel_rfl) (by kernel_rfl) ?_; (repeat (go_big_quiet_step (first | (go_at_call 114; exact Calls.regrown_of (c_l2Over _ _ (by omega))) | (go_at_call 41; exact Calls.regrown_of ((c_l2Top _).mono fun _ _ h => ⟨h.1, h.2 ▸ Below.refl _ _⟩))))); refine wpQuiet_nil ?_; intro _ hw'; obtain ⟨⟨nd, no⟩, hw''⟩ := hw'; subst hw''
          have hX := hX.bl (below_regrown _ nd no)
          have hB := below_step hB (below_regrown _ nd no)
          go_wp2_with fail
          all_goals
            first
              | exact ⟨⟨x, j + 1, rfl, by go_num, by omega, hX, hB⟩, by simp [intOf]; omega⟩
              | exact ⟨⟨_, j + 1, rfl, by go_num, by omega, hX, hB⟩, by simp [intOf]; omega⟩
    · have hd : decide ((j : Int) ≤ 32) = false := by simp; omega
      go_wp2
      go_ret
      exact ⟨_, rfl, hB⟩
theorem c_l2Some (a b c d : Int) (w : World) : Calls Tryz.prog 73 #[rgV a b c d] w fun e w' => ∃ x : Bool, e = .returned (.bool x) ∧ Below w.heap.size w w' := by
  have hX := Blk.new w 54 (rgC a b c d)
  have hB := below_new w (.cells (rgC a b c d) 54)
  obtain ⟨ax0, ax1, ax2, ax3⟩ := hX.cells4; have axf := hX.frozen
  go_enter Tryz.func73, Tryz.ntmps73
  go_wp2_with (go_at_call 94; (with_reducible refine (c_l2Next _ _ _ _ _ _).mono ?_); rintro e w1 ⟨x, rfl, hb⟩; have hX := hX.bl hb; have hB := below_step (w := w) hB hb; obtain ⟨ax0, ax1, ax2, ax3⟩ := hX.cells4; have axf := hX.frozen)
  all_goals
    go_ret
    first
      | exact ⟨_, rfl, hB⟩
      | exact ⟨Or.inl rfl, hB⟩
      | exact ⟨Or.inr rfl, hB⟩
      | exact hB
end Go.Proofs.YtlofelnfcdbedaaGreat.S
namespace Go.Proofs.YtlofelnfcdbedaaGreat.S
open Go.RowKit Go.BigFrame Go.Sort
set_option linter.unusedVariables false
set_option linter.unusedSimpArgs false

theorem c_l2One (n : Int) (w : World) : Calls Tryz.prog 43 #[.int .i64 n] w fun e w' => e = .returned (rgV n n n 0) ∧ Below w.heap.size w w' := by
  go_enter Tryz.func43, Tryz.ntmps43
  go_wp2
  exact bodyPost_ret (res_rg rfl _ rfl (Blk.new w 54 (rgC n n n 0))) rfl ⟨rfl, below_new w _⟩
theorem c_l2Ends (lo hi : Int) (w : World) (h1 : I32 lo) (h2 : I32 hi) : Calls Tryz.prog 25 #[.int .i64 lo, .int .i64 hi] w fun e w' => ∃ v, e = .returned v ∧ R32 v ∧ Below w.heap.size w w' := by
  have hX := Blk.new w 54 (rgC 0 0 0 0)
  have hB := below_new w (.cells (rgC 0 0 0 0) 54)
  go_enter Tryz.func25, Tryz.ntmps25
  go_wp2_with (first | (first | (go_at_call 41; refine (c_l2Top _).mono ?_; rintro e w' ⟨rfl, rfl⟩) | fail) | (go_at_call 40; (with_reducible refine (c_l2Tidy _ _ _ _ _ h1 h2 zero_32 top_32).mono ?_); rintro e w1 ⟨v, rfl, ⟨a, b, c, d, rfl, ha, hb, hc, hd⟩, hb1⟩; have hX := hX.bl hb1; have hB := below_step (w := w) hB hb1; obtain ⟨ax0, ax1, ax2, ax3⟩ := hX.cells4; have axf := hX.frozen))
  exact bodyPost_ret (res_rg rfl _ rfl (hX.four _ _ _ _)) rfl ⟨_, rfl, ⟨_, _, _, _, rfl, ha, hb, hc, hd⟩, below_four hB (Nat.le_refl _) _ _ _ _⟩
set_option maxHeartbeats 2000000 in
theorem c_l2But (a b c d n : Int) (w : World) (ha : I32 a) (hb : I32 b) (hc : I32 c) (hd : I32 d) (hn : I32 n) : Calls Tryz.prog 74 #[rgV a b c d, .int .i64 n] w (RgB w) := by
  have n0 := hn.lo
  have n1 := hn.hi
  have a0 := ha.lo
  have b0 := hb.hi
  have w1 : IntKind.i64.wrap (n + 1) = n + 1 := by rw [IntKind.wrap_i64]; omega
  have w2 : IntKind.i64.wrap (n - 1) = n - 1 := by rw [IntKind.wrap_i64]; omega
  go_enter Tryz.func74, Tryz.ntmps74
  go_wp2_with (first | (go_at_call 73; (with_reducible refine (c_l2Some _ _ _ _ _).mono ?_); rintro e w1 ⟨x, rfl, hb1⟩; have hX := Blk.bl ((Blk.new w 54 _).alloc _) hb1; have hY := Blk.bl (Blk.new' (w := w.alloc (.cells _ 54)) (g := w.heap.size + 1) (by simp) 54 (rgC 0 0 0 0)) hb1; have hB := below_step (w := w) (below_alloc (below_new w _) _) hb1; obtain ⟨ax0, ax1, ax2, ax3⟩ := hX.cells4; have axf := hX.frozen; obtain ⟨bx0, bx1, bx2, bx3⟩ := hY.cells4; have bxf := hY.frozen) | (go_at_call 40; ((with_reducible refine (c_l2Tidy _ _ _ _ _ ?_ ?_ hc hd).mono ?_); exact ⟨(by omega), (by omega)⟩; exact ⟨(by omega), (by omega)⟩; rintro e w2 ⟨v, rfl, ⟨a2, b2, c2, d2, rfl, ha2, hb2, hc2, hd2⟩, hb3⟩; have hY := hY.bl hb3; have hB := below_step (w := w) hB hb3; obtain ⟨bx0, bx1, bx2, bx3⟩ := hY.cells4; have bxf := hY.frozen)))
  all_goals first
    | exact bodyPost_ret (res_rgb rfl _ rfl rfl (hY.four _ _ _ _)) rfl ⟨_, _, rfl, ⟨_, _, _, _, rfl, ha2, hb2, hc2, hd2⟩, below_four hB (by omega) _ _ _ _⟩
    | exact bodyPost_ret (res_rgb rfl _ rfl rfl (hY.four _ _ _ _)) rfl ⟨_, _, rfl, r32_1, below_four hB (by omega) _ _ _ _⟩
    | exact bodyPost_ret (res_rgb rfl _ rfl rfl (Blk.new' (w := w.alloc (.cells _ 54)) (g := w.heap.size + 1) (by simp) 54 (rgC 1 0 0 0))) rfl ⟨_, _, rfl, r32_1, below_alloc (below_new w _) _⟩

end Go.Proofs.YtlofelnfcdbedaaGreat.S
