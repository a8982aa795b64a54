/- Ranges: the reference answers, and stays in 32 bits. -/
import Derived.Test.YtlofelnfcdbedaaGreatK1
namespace Go.Proofs.YtlofelnfcdbedaaGreat.S
open Go.RowKit Go.BigFrame Go.Sort
set_option linter.unusedVariables false
set_option linter.unusedSimpArgs false

theorem c_l2Bits (a b : Int) (w : World) (ha : I32 a) (hb : I32 b) : Calls Tryz.prog 61 #[.int .i64 a, .int .i64 b] w fun e w' => ∃ x y : Int, e = .returned (.tuple #[.int .i64 x, .int .i64 y]) ∧ I32 x ∧ I32 y ∧ w = w' := by
  have hx := (xor_32 ha hb).hi
  go_enter Tryz.func61, Tryz.ntmps61
  go_wp2_with (first | (first | (go_at_call 41; refine (c_l2Top _).mono ?_; rintro e w' ⟨rfl, rfl⟩) | fail) | (go_at_call 72; (with_reducible refine (c_l2Mask _ _ ?_).mono ?_); omega; rintro e w' ⟨rfl, rfl⟩))
  go_ret2
  refine ⟨_, _, rfl, ?_, ?_, rfl⟩
  · (with_reducible (repeat (first | assumption | exact top_32 | apply and_32 | apply or_32 | apply xor_32 | apply msk_32)))
  · (with_reducible (repeat (first | assumption | exact top_32 | apply and_32 | apply or_32 | apply xor_32 | apply msk_32)))
noncomputable def tdAll : Code := (Tryz.f40).body.getD .skip
noncomputable def td3c : Code := cd1 (cd2 (cd2 (cd2 tdAll)))
set_option maxRecDepth 100000 in
set_option maxHeartbeats 4000000 in
theorem td3 {S : Nat} {a b c d x : Int} {v0 v2 v4 v5 v6 v7 v8 v9 v10 v11 v12 v13 v14 v15 v16 v17 v18 v19 v20 v21 v22 v23 v24 v25 v26 v27 v28 v29 v30 v31 v32 v33 v34 v35 v36 v37 v38 v39 v40 v41 v42 v43 v44 v45 v46 v47 v48 v49 v50 : Value} {W : World} {K0 : Act → World → Prop} {Post : Ending → World → Prop} (hX : Blk W S 54 (rgC a b c d)) (hx : I32 x) (hc : I32 c) (hd : I32 d) (hQ : ∀ (u18 u19 u20 u21 u22 u23 u24 u25 u26 u27 : Value) (c' : Int), I32 c' → K0 ⟨List.toArray (v0 :: (.pointer (some ⟨S, 0, none⟩)) :: v2 :: (.int .i64 x) :: v4 :: v5 :: v6 :: v7 :: v8 :: v9 :: v10 :: v11 :: v12 :: v13 :: v14 :: v15 :: v16 :: v17 :: u18 :: u19 :: u20 :: u21 :: u22 :: u23 :: u24 :: u25 :: u26 :: u27 :: v28 :: v29 :: v30 :: v31 :: v32 :: v33 :: v34 :: v35 :: v36 :: v37 :: v38 :: v39 :: v40 :: v41 :: v42 :: v43 :: v44 :: v45 :: v46 :: v47 :: v48 :: v49 :: v50 :: []), []⟩ (W.drew.setCell ⟨S, 2, none⟩ (.int .i64 c'))) : Code.wp Tryz.prog td3c (Exit.then K0 (bodyPost Tryz.prog Tryz.f40 Post)) ⟨List.toArray (v0 :: (.pointer (some ⟨S, 0, none⟩)) :: v2 :: (.int .i64 x) :: v4 :: v5 :: v6 :: v7 :: v8 :: v9 :: v10 :: v11 :: v12 :: v13 :: v14 :: v15 :: v16 :: v17 :: v18 :: v19 :: v20 :: v21 :: v22 :: v23 :: v24 :: v25 :: v26 :: v27 :: v28 :: v29 :: v30 :: v31 :: v32 :: v33 :: v34 :: v35 :: v36 :: v37 :: v38 :: v39 :: v40 :: v41 :: v42 :: v43 :: v44 :: v45 :: v46 :: v47 :: v48 :: v49 :: v50 :: []), []⟩ W := by
  replace hQ := Lib.hid hQ
  have hX := hX.drew
  obtain ⟨x0, x1, x2, x3⟩ := hX.cells4
  have xf := hX.frozen
  clear hX
  conv => arg 2; whnf
  go_region_with (first | (go_at_call 41; refine (c_l2Top _).mono ?_; rintro e w' ⟨rfl, rfl⟩) | fail)
  all_goals
    apply hQ.out
    (with_reducible (repeat (first | assumption | exact top_32 | apply and_32 | apply or_32 | apply xor_32 | apply msk_32)))
set_option maxHeartbeats 4000000 in
set_option maxRecDepth 1000000 in
theorem c_l2Tidy (a b c d : Int) (w : World) (ha : I32 a) (hb : I32 b) (hc : I32 c) (hd : I32 d) : Calls Tryz.prog 40 #[rgV a b c d] w fun e w' => ∃ v, e = .returned v ∧ R32 v ∧ Below w.heap.size w w' := by
  have hX := (Blk.new w 54 (rgC a b c d)).alloc (.cells (rgC 0 0 0 0) 54)
  have hY : Blk ((w.alloc (.cells (rgC a b c d) 54)).alloc (.cells (rgC 0 0 0 0) 54)) (w.heap.size + 1) 54 (rgC 0 0 0 0) := Blk.new' (by simp) _ _
  have hB := below_alloc (below_new w (.cells (rgC a b c d) 54)) (.cells (rgC 0 0 0 0) 54)
  obtain ⟨ax0, ax1, ax2, ax3⟩ := hX.cells4; have axf := hX.frozen
  obtain ⟨bx0, bx1, bx2, bx3⟩ := hY.cells4; have bxf := hY.frozen
  go_enter Tryz.func40, Tryz.ntmps40
  go_upto_region 1 with fail
  go_cut [3, 4] (fun x y W => ∃ x' y' : Int, x = .int .i64 x' ∧ y = .int .i64 y' ∧ I32 x' ∧ I32 y' ∧ Blk W w.heap.size 54 (rgC a b c d) ∧ Blk W (w.heap.size + 1) 54 (rgC 0 0 0 0) ∧ Below w.heap.size w W)
  case first =>
    go_wp2_with (go_at_call 61; (with_reducible refine (c_l2Bits _ _ _ ha hb).mono ?_); rintro e w' ⟨x, y, rfl, hx, hy, rfl⟩)
    go_meet
    exact ⟨_, _, rfl, rfl, hx, hy, hX, hY, hB⟩
  case rest =>
    clear hX hY hB ax0 ax1 ax2 ax3 axf bx0 bx1 bx2 bx3 bxf
    obtain ⟨x, y, rfl, rfl, hx, hy, hX, hY, hB⟩ := hcut
    obtain ⟨ax0, ax1, ax2, ax3⟩ := hX.cells4; have axf := hX.frozen
    go_upto_region 3 with fail
    have hX := hX.set_ 3 (.int .i64 (bits .and .i64 d y))
    have hY := hY.far (p := ⟨w.heap.size, 3, none⟩) (by simp) (.int .i64 (bits .and .i64 d y))
    have hB := below_set hB (show w.heap.size ≤ (⟨w.heap.size, 3, none⟩ : Addr).block by simp) (.int .i64 (bits .and .i64 d y))
    have hdy := and_32 hd hy
    go_cut [] (fun W => ∃ c' : Int, I32 c' ∧ Blk W w.heap.size 54 (rgC a b c' (bits .and .i64 d y)) ∧ Blk W (w.heap.size + 1) 54 (rgC 0 0 0 0) ∧ Below w.heap.size w W)
    case first =>
      refine rd_use (td3 (Post := fun e w' => ∃ v, e = .returned v ∧ R32 v ∧ Below w.heap.size w w') hX hx hc hdy ?_) (fun e a w' he h => by cases e <;> first | exact h | exact h.elim | exact (he rfl).elim)
      intro u18 u19 u20 u21 u22 u23 u24 u25 u26 u27 c' hc'
      go_wp2_with fail
      go_meet
      exact ⟨c', hc', hX.drew.set_ 2 _, hY.drew.far (p := ⟨w.heap.size, 2, none⟩) (by simp) _, below_set (below_drew hB) (show w.heap.size ≤ (⟨w.heap.size, 2, none⟩ : Addr).block by simp) _⟩
    case rest =>
      clear hX hY hB ax0 ax1 ax2 ax3 axf
      obtain ⟨c', hc', hX, hY, hB⟩ := hcut
      generalize bits .and .i64 d y = d' at *
      obtain ⟨ax0, ax1, ax2, ax3⟩ := hX.cells4; have axf := hX.frozen
      obtain ⟨bx0, bx1, bx2, bx3⟩ := hY.cells4; have bxf := hY.frozen
      have hs1 : w.heap.size + 1 ≠ w.heap.size := by omega
      go_wp2
      · exact bodyPost_ret (res_rg rfl _ rfl (((hY.far (p := ⟨w.heap.size, 0, none⟩) hs1 (.int .i64 c')).far (p := ⟨w.heap.size, 1, none⟩) hs1 (.int .i64 (bits .or .i64 c' d'))).four _ _ _ _)) rfl ⟨_, rfl, ⟨_, _, _, _, rfl, hc', (or_32 hc' hdy), hc', hdy⟩, below_four (below_set (below_set hB (show w.heap.size ≤ (⟨w.heap.size, 0, none⟩ : Addr).block by simp) (.int .i64 c')) (show w.heap.size ≤ (⟨w.heap.size, 1, none⟩ : Addr).block by simp) (.int .i64 (bits .or .i64 c' d'))) (by omega) _ _ _ _⟩
      · exact bodyPost_ret (res_rg rfl _ rfl ((hY.far (p := ⟨w.heap.size, 0, none⟩) hs1 (.int .i64 c')).four _ _ _ _)) rfl ⟨_, rfl, ⟨_, _, _, _, rfl, hc', hb, hc', hdy⟩, below_four (below_set hB (show w.heap.size ≤ (⟨w.heap.size, 0, none⟩ : Addr).block by simp) (.int .i64 c')) (by omega) _ _ _ _⟩
      · exact bodyPost_ret (res_rg rfl _ rfl ((hY.far (p := ⟨w.heap.size, 1, none⟩) hs1 (.int .i64 (bits .or .i64 c' d'))).four _ _ _ _)) rfl ⟨_, rfl, ⟨_, _, _, _, rfl, ha, (or_32 hc' hdy), hc', hdy⟩, below_four (below_set hB (show w.heap.size ≤ (⟨w.heap.size, 1, none⟩ : Addr).block by simp) (.int .i64 (bits .or .i64 c' d'))) (by omega) _ _ _ _⟩
      · exact bodyPost_ret (res_rg rfl _ rfl (hY.four _ _ _ _)) rfl ⟨_, rfl, ⟨_, _, _, _, rfl, ha, hb, hc', hdy⟩, below_four hB (by omega) _ _ _ _⟩
end Go.Proofs.YtlofelnfcdbedaaGreat.S
