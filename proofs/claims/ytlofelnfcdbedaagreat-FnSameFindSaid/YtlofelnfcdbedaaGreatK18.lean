/- Ranges: what is of both. -/
import Derived.Test.YtlofelnfcdbedaaGreatK16
namespace Go.Proofs.YtlofelnfcdbedaaGreat.S
open Go.RowKit Go.BigFrame Go.Sort
set_option linter.unusedVariables false
set_option linter.unusedSimpArgs false

set_option maxRecDepth 100000 in
set_option maxHeartbeats 4000000 in
theorem c_l2Meet (a b c d p q r s : Int) (w : World) (ha : I32 a) (hb : I32 b) (hc : I32 c) (hd : I32 d) (hp : I32 p) (hq : I32 q) (hr : I32 r) (hs : I32 s) : Calls Tryz.prog 62 #[rgV a b c d, rgV p q r s] w (RgB w) := by
  have a0 := ha.lo
  have a1 := ha.hi
  have b0 := hb.lo
  have b1 := hb.hi
  have p0 := hp.lo
  have p1 := hp.hi
  have q0 := hq.lo
  have q1 := hq.hi
  have hor := or_32 hc hr
  have han := and_32 hd hs
  have hX : Blk (((w.alloc (.cells (rgC a b c d) 54)).alloc (.cells (rgC p q r s) 54)).alloc (.cells (rgC 0 0 0 0) 54)) w.heap.size 54 (rgC a b c d) := ((Blk.new w _ _).alloc _).alloc _
  have hX' : Blk (((w.alloc (.cells (rgC a b c d) 54)).alloc (.cells (rgC p q r s) 54)).alloc (.cells (rgC 0 0 0 0) 54)) (w.heap.size + 1) 54 (rgC p q r s) := (Blk.new' (by simp) _ _).alloc _
  have hY : Blk (((w.alloc (.cells (rgC a b c d) 54)).alloc (.cells (rgC p q r s) 54)).alloc (.cells (rgC 0 0 0 0) 54)) (w.heap.size + 1 + 1) 54 (rgC 0 0 0 0) := Blk.new' (by simp) _ _
  have hB := below_alloc (below_alloc (below_new w (.cells (rgC a b c d) 54)) (.cells (rgC p q r s) 54)) (.cells (rgC 0 0 0 0) 54)
  go_enter Tryz.func62, Tryz.ntmps62
  go_upto_region 1 with fail
  go_cut [6] (fun v W => ∃ k : Int, v = .int .i64 k ∧ Blk W w.heap.size 54 (rgC a b c d) ∧ Blk W (w.heap.size + 1) 54 (rgC p q r s) ∧ Blk W (w.heap.size + 1 + 1) 54 (rgC 0 0 0 0) ∧ Below w.heap.size w W)
  case first =>
    go_quiet ((first | (go_at_call 41; exact Calls.quiet_of_same ((c_l2Top _).mono fun _ _ h => ⟨h.1, h.2.symm⟩)) | fail))
    go_wp2_with fail
    go_meet
    exact ⟨_, rfl, hX.drewN _, hX'.drewN _, hY.drewN _, below_drewN hB _⟩
  case rest =>
    clear hX hX' hY hB
    obtain ⟨k, rfl, hX, hX', hY, hB⟩ := hcut
    obtain ⟨ax0, ax1, ax2, ax3⟩ := hX.cells4; have axf := hX.frozen
    obtain ⟨bx0, bx1, bx2, bx3⟩ := hX'.cells4; have bxf := hX'.frozen
    obtain ⟨cx0, cx1, cx2, cx3⟩ := hY.cells4; have cxf := hY.frozen
    go_upto_region 2 with fail
    go_cut [24] (fun v W => ∃ x : Bool, v = .bool x ∧ Blk W w.heap.size 54 (rgC a b c d) ∧ Blk W (w.heap.size + 1) 54 (rgC p q r s) ∧ Blk W (w.heap.size + 1 + 1) 54 (rgC 0 0 0 0) ∧ Below w.heap.size w W)
    case first =>
      go_quiet ((first | (go_at_call 41; exact Calls.quiet_of_same ((c_l2Top _).mono fun _ _ h => ⟨h.1, h.2.symm⟩)) | fail))
      go_wp2_with fail
      go_meet
      exact ⟨_, rfl, hX.drewN _, hX'.drewN _, hY.drewN _, below_drewN hB _⟩
    case rest =>
      clear hX hX' hY hB ax0 ax1 ax2 ax3 axf bx0 bx1 bx2 bx3 bxf cx0 cx1 cx2 cx3 cxf
      obtain ⟨x, rfl, hX, hX', hY, hB⟩ := hcut
      have hlt := hY.lt
      obtain ⟨ax0, ax1, ax2, ax3⟩ := hX.cells4; have axf := hX.frozen
      obtain ⟨bx0, bx1, bx2, bx3⟩ := hX'.cells4; have bxf := hX'.frozen
      obtain ⟨cx0, cx1, cx2, cx3⟩ := hY.cells4; have cxf := hY.frozen
      obtain ⟨g0, g1, g2, g3⟩ := (hX'.alloc (.cells (rgC a b (bits .or .i64 c r) (bits .and .i64 d s)) 54)).cells4
      obtain ⟨k0, k1, k2, k3⟩ := (hX'.alloc (.cells (rgC p b (bits .or .i64 c r) (bits .and .i64 d s)) 54)).cells4
      go_wp2_with (first | (go_at_call 73; ((with_reducible refine (c_l2Some _ _ _ _ _).mono ?_); rintro e w1 ⟨y, rfl, hb1⟩; have hT := Blk.bl (Blk.new _ 54 _) hb1; have hY := (hY.alloc _).bl hb1; have hB := below_step (w := w) (below_alloc hB _) hb1; obtain ⟨tx0, tx1, tx2, tx3⟩ := hT.cells4; have txf := hT.frozen; obtain ⟨cx0, cx1, cx2, cx3⟩ := hY.cells4; have cxf := hY.frozen)) | (go_at_call 40; ((with_reducible refine (c_l2Tidy _ _ _ _ _ ?_ ?_ hor han).mono ?_); (focus first | assumption | exact ⟨by omega, by omega⟩); (focus first | assumption | exact ⟨by omega, by omega⟩); rintro e w2 ⟨v, rfl, ⟨a2, b2, c2, d2, rfl, ha2, hb2, hc2, hd2⟩, hb3⟩; have hY := hY.bl hb3; have hB := below_step (w := w) hB hb3; obtain ⟨cx0, cx1, cx2, cx3⟩ := hY.cells4; have cxf := hY.frozen)))
      all_goals first
        | ((with_reducible refine end_rgb (i := 4) (j := 5) (hY.four _ _ _ _) (below_four hB (le_m w) _ _ _ _) (r32_mk ha2 hb2 hc2 hd2) ?_ ?_ ?_) <;> (first | rfl | exact ⟨_, rfl⟩))
        | ((with_reducible refine end_rgb (i := 4) (j := 5) (hY.four _ _ _ _) (below_four hB (le_m w) _ _ _ _) r32_1 ?_ ?_ ?_) <;> (first | rfl | exact ⟨_, rfl⟩))
        | ((with_reducible refine end_rgb (i := 4) (j := 5) ((hY.four _ _ _ _).alloc _) (below_alloc (below_four hB (le_m w) _ _ _ _) _) r32_1 ?_ ?_ ?_) <;> (first | rfl | exact ⟨_, rfl⟩))
end Go.Proofs.YtlofelnfcdbedaaGreat.S
