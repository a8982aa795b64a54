/- Ranges: two of them. -/
import Derived.Test.YtlofelnfcdbedaaGreatK16
namespace Go.Proofs.YtlofelnfcdbedaaGreat.S
open Go.RowKit Go.BigFrame Go.Sort
set_option linter.unusedVariables false
set_option linter.unusedSimpArgs false

set_option maxHeartbeats 2000000 in
theorem c_l2Apart (a b c d p q r s : Int) (w : World) (ha : I32 a) (hb : I32 b) (hc : I32 c) (hd : I32 d) (hp : I32 p) : Calls Tryz.prog 63 #[rgV a b c d, rgV p q r s] w (RgB w) := by
  have hY : Blk (((w.alloc (.cells (rgC a b c d) 54)).alloc (.cells (rgC p q r s) 54)).alloc (.cells (rgC 0 0 0 0) 54)) (w.heap.size + 1 + 1) 54 (rgC 0 0 0 0) := Blk.new' (by simp) _ _
  have hB := below_alloc (below_alloc (below_new w (.cells (rgC a b c d) 54)) (.cells (rgC p q r s) 54)) (.cells (rgC 0 0 0 0) 54)
  rcases Bool.eq_false_or_eq_true (p == q) with hpq | hpq
  · go_enter Tryz.func63, Tryz.ntmps63
    go_wp2_with (go_at_call 74; ((with_reducible refine (c_l2But _ _ _ _ _ _ ha hb hc hd hp).mono ?_); rintro e w1 ⟨v, x, rfl, ⟨a2, b2, c2, d2, rfl, ha2, hb2, hc2, hd2⟩, hb1⟩; have hY := hY.bl hb1; have hB := below_step (w := w) hB hb1; obtain ⟨bx0, bx1, bx2, bx3⟩ := hY.cells4; have bxf := hY.frozen))
    exact bodyPost_ret (res_rgb rfl _ rfl rfl (hY.four _ _ _ _)) rfl ⟨_, _, rfl, ⟨_, _, _, _, rfl, ha2, hb2, hc2, hd2⟩, below_four hB (by omega) _ _ _ _⟩
  · go_enter Tryz.func63, Tryz.ntmps63
    go_wp2_with fail
    exact bodyPost_ret (res_rgb rfl _ rfl rfl (Blk.new' (w := (w.alloc (.cells (rgC a b c d) 54)).alloc (.cells (rgC p q r s) 54)) (g := w.heap.size + 1 + 1) (by simp) 54 (rgC a b c d))) rfl ⟨_, _, rfl, ⟨_, _, _, _, rfl, ha, hb, hc, hd⟩, below_alloc (below_alloc (below_new w _) _) _⟩
set_option maxRecDepth 100000 in
set_option maxHeartbeats 4000000 in
theorem c_l2Below (a b c d p q r s y : Int) (w : World) (ha : I32 a) (hb : I32 b) (hc : I32 c) (hd : I32 d) (hp : I32 p) (hq : I32 q) (hr : I32 r) (hs : I32 s) (hy : y = 0 ∨ y = 1) : Calls Tryz.prog 64 #[rgV a b c d, rgV p q r s, .int .i64 y] w (RgBB w) := by
  have a0 := ha.lo
  have a1 := ha.hi
  have q0 := hq.lo
  have q1 := hq.hi
  have p0 := hp.lo
  have b1 := hb.hi
  have hy0 : 0 ≤ y ∧ y ≤ 1 := by omega
  have w1 : IntKind.i64.wrap (q - y) = q - y := by rw [IntKind.wrap_i64]; omega
  have w2 : IntKind.i64.wrap (a + y) = a + y := by rw [IntKind.wrap_i64]; omega
  clear hy
  have hXa : Blk ((((w.alloc (.cells (rgC a b c d) 54)).alloc (.cells (rgC p q r s) 54)).alloc (.cells (rgC 0 0 0 0) 54)).alloc (.cells (rgC 0 0 0 0) 54)) w.heap.size 54 (rgC a b c d) := (((Blk.new w _ _).alloc _).alloc _).alloc _
  have hXb : Blk ((((w.alloc (.cells (rgC a b c d) 54)).alloc (.cells (rgC p q r s) 54)).alloc (.cells (rgC 0 0 0 0) 54)).alloc (.cells (rgC 0 0 0 0) 54)) (w.heap.size + 1) 54 (rgC p q r s) := ((Blk.new' (by simp) _ _).alloc _).alloc _
  have hY := (newY w (rgC a b c d) (rgC p q r s) (rgC 0 0 0 0) 54).alloc (.cells (rgC 0 0 0 0) 54)
  have hZ := newZ w (rgC a b c d) (rgC p q r s) (rgC 0 0 0 0) (rgC 0 0 0 0) 54
  have hB := below_alloc (below_alloc (below_alloc (below_new w (.cells (rgC a b c d) 54)) (.cells (rgC p q r s) 54)) (.cells (rgC 0 0 0 0) 54)) (.cells (rgC 0 0 0 0) 54)
  have z1 : w.heap.size + 1 ≠ w.heap.size := by omega
  have z2 : w.heap.size + 1 + 1 ≠ w.heap.size := by omega
  have z3 : w.heap.size + 1 + 1 + 1 ≠ w.heap.size := by omega
  have z4 : w.heap.size ≠ w.heap.size + 1 := by omega
  have z5 : w.heap.size + 1 + 1 ≠ w.heap.size + 1 := by omega
  have z6 : w.heap.size + 1 + 1 + 1 ≠ w.heap.size + 1 := by omega
  have z7 : w.heap.size ≤ w.heap.size + 1 := by omega
  go_enter Tryz.func64, Tryz.ntmps64
  go_upto_region 1 with fail
  go_cut [15] (fun v W => v = .bool (decide (q - y < b)) ∧ Blk W w.heap.size 54 (rgC a b c d) ∧ Blk W (w.heap.size + 1) 54 (rgC p q r s) ∧ Blk W (w.heap.size + 1 + 1) 54 (rgC 0 0 0 0) ∧ Blk W (w.heap.size + 1 + 1 + 1) 54 (rgC 0 0 0 0) ∧ Below w.heap.size w W)
  case first =>
    go_wp2_with fail
    go_meet
    exact ⟨rfl, hXa, hXb, hY, hZ, hB⟩
  case rest =>
    clear hXa hXb hY hZ hB
    obtain ⟨rfl, hXa, hXb, hY, hZ, hB⟩ := hcut
    obtain ⟨ax0, ax1, ax2, ax3⟩ := hXa.cells4; have axf := hXa.frozen
    obtain ⟨bx0, bx1, bx2, bx3⟩ := hXb.cells4; have bxf := hXb.frozen
    go_upto_if 15 with fail
    go_cut [] (fun W => ∃ b' : Int, b' ≤ 4294967295 ∧ Blk W w.heap.size 54 (rgC a b' c d) ∧ Blk W (w.heap.size + 1) 54 (rgC p q r s) ∧ Blk W (w.heap.size + 1 + 1) 54 (rgC 0 0 0 0) ∧ Blk W (w.heap.size + 1 + 1 + 1) 54 (rgC 0 0 0 0) ∧ Below w.heap.size w W)
    case first =>
      go_wp2_with fail
      · go_meet
        exact ⟨q - y, by omega, hXa.set_ 1 _, hXb.far (p := ⟨w.heap.size, 1, none⟩) z1 _, hY.far (p := ⟨w.heap.size, 1, none⟩) z2 _, hZ.far (p := ⟨w.heap.size, 1, none⟩) z3 _, below_set hB (Nat.le_refl w.heap.size) _⟩
      · go_meet
        exact ⟨b, by omega, hXa, hXb, hY, hZ, hB⟩
    case rest =>
      clear hXa hXb hY hZ hB ax0 ax1 ax2 ax3 axf bx0 bx1 bx2 bx3 bxf
      obtain ⟨b', hb', hXa, hXb, hY, hZ, hB⟩ := hcut
      obtain ⟨ax0, ax1, ax2, ax3⟩ := hXa.cells4; have axf := hXa.frozen
      obtain ⟨bx0, bx1, bx2, bx3⟩ := hXb.cells4; have bxf := hXb.frozen
      go_upto_if 27 with fail
      go_cut [] (fun W => ∃ p' : Int, 0 ≤ p' ∧ Blk W w.heap.size 54 (rgC a b' c d) ∧ Blk W (w.heap.size + 1) 54 (rgC p' q r s) ∧ Blk W (w.heap.size + 1 + 1) 54 (rgC 0 0 0 0) ∧ Blk W (w.heap.size + 1 + 1 + 1) 54 (rgC 0 0 0 0) ∧ Below w.heap.size w W)
      case first =>
        go_wp2_with fail
        · go_meet
          exact ⟨a + y, by omega, hXa.far (p := ⟨w.heap.size + 1, 0, none⟩) z4 _, hXb.set_ 0 _, hY.far (p := ⟨w.heap.size + 1, 0, none⟩) z5 _, hZ.far (p := ⟨w.heap.size + 1, 0, none⟩) z6 _, below_set hB z7 _⟩
        · go_meet
          exact ⟨p, by omega, hXa, hXb, hY, hZ, hB⟩
      case rest =>
        clear hXa hXb hY hZ hB ax0 ax1 ax2 ax3 axf bx0 bx1 bx2 bx3 bxf
        obtain ⟨p', hp', hXa, hXb, hY, hZ, hB⟩ := hcut
        obtain ⟨ax0, ax1, ax2, ax3⟩ := hXa.cells4; have axf := hXa.frozen
        obtain ⟨bx0, bx1, bx2, bx3⟩ := hXb.cells4; have bxf := hXb.frozen
        obtain ⟨cx0, cx1, cx2, cx3⟩ := hY.cells4; have cxf := hY.frozen
        obtain ⟨dx0, dx1, dx2, dx3⟩ := hZ.cells4; have dxf := hZ.frozen
        go_upto_region 7 with (go_at_call 73; (with_reducible refine (c_l2Some _ _ _ _ _).mono ?_); rintro e w2 ⟨x2, rfl, hb2⟩; have hXa := hXa.bl hb2; have hXb := hXb.bl hb2; have hY := hY.bl hb2; have hZ := hZ.bl hb2; have hB := below_step (w := w) hB hb2; obtain ⟨ax0, ax1, ax2, ax3⟩ := hXa.cells4; have axf := hXa.frozen; obtain ⟨bx0, bx1, bx2, bx3⟩ := hXb.cells4; have bxf := hXb.frozen; obtain ⟨cx0, cx1, cx2, cx3⟩ := hY.cells4; have cxf := hY.frozen; obtain ⟨dx0, dx1, dx2, dx3⟩ := hZ.cells4; have dxf := hZ.frozen)
        all_goals first
          | ((with_reducible refine end_rgb2 (i := 6) (j := 7) (k := 8) ((hY.four _ _ _ _).farFour (ne_23 w) _ _ _ _) ((hZ.farFour (ne_32 w) _ _ _ _).four _ _ _ _) (below_four (below_four hB (le_2 w) _ _ _ _) (le_3 w) _ _ _ _) r32_1 r32_1 ?_ ?_ ?_ ?_ ?_) <;> (first | rfl | exact ⟨_, rfl⟩))
          | skip
        have hb3 : I32 b' := ⟨by omega, hb'⟩
        have hp3 : I32 p' := ⟨hp', by omega⟩
        have hXa := hXa.drew
        have hXb := hXb.drew
        have hY := hY.drew
        have hZ := hZ.drew
        have hB := below_drew hB
        obtain ⟨ax0, ax1, ax2, ax3⟩ := hXa.cells4; have axf := hXa.frozen
        obtain ⟨bx0, bx1, bx2, bx3⟩ := hXb.cells4; have bxf := hXb.frozen
        obtain ⟨cx0, cx1, cx2, cx3⟩ := hY.cells4; have cxf := hY.frozen
        obtain ⟨dx0, dx1, dx2, dx3⟩ := hZ.cells4; have dxf := hZ.frozen
        go_region_with (go_at_call 40; (with_reducible refine (c_l2Tidy _ _ _ _ _ (by assumption) (by assumption) (by assumption) (by assumption)).mono ?_); rintro e w3 ⟨v3, rfl, ⟨a3, b3, c3, d3, rfl, ha3, hb3, hc3, hd3⟩, hb4⟩; have hXa := hXa.bl hb4; have hXb := hXb.bl hb4; have hY := hY.bl hb4; have hZ := hZ.bl hb4; have hB := below_step (w := w) hB hb4; obtain ⟨ax0, ax1, ax2, ax3⟩ := hXa.cells4; have axf := hXa.frozen; obtain ⟨bx0, bx1, bx2, bx3⟩ := hXb.cells4; have bxf := hXb.frozen; obtain ⟨cx0, cx1, cx2, cx3⟩ := hY.cells4; have cxf := hY.frozen; obtain ⟨dx0, dx1, dx2, dx3⟩ := hZ.cells4; have dxf := hZ.frozen)
        all_goals
          go_wp2
          ((with_reducible refine end_rgb2 (i := 6) (j := 7) (k := 8) ((hY.four _ _ _ _).farFour (ne_23 w) _ _ _ _) ((hZ.farFour (ne_32 w) _ _ _ _).four _ _ _ _) (below_four (below_four hB (le_2 w) _ _ _ _) (le_3 w) _ _ _ _) (r32_mk ?_ ?_ ?_ ?_) (r32_mk ?_ ?_ ?_ ?_) ?_ ?_ ?_ ?_ ?_) <;> (first | assumption | rfl | exact ⟨_, rfl⟩))
end Go.Proofs.YtlofelnfcdbedaaGreat.S
