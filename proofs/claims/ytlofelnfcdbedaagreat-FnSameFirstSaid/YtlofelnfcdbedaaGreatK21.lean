/- Ranges: behind a jump: all ways. A region that draws and lays blocks: the new ones as letters. A region that draws: its operations one by one, by laws. -/
import Derived.Test.YtlofelnfcdbedaaGreatK20
namespace Go.Proofs.YtlofelnfcdbedaaGreat.S
open Go.RowKit Go.BigFrame Go.Sort
set_option linter.unusedVariables false
set_option linter.unusedSimpArgs false

theorem newXa (w : World) (c1 c2 c3 c4 : Array Value) (t : TypeId) : Blk ((((w.alloc (.cells c1 t)).alloc (.cells c2 t)).alloc (.cells c3 t)).alloc (.cells c4 t)) w.heap.size t c1 := (((Blk.new w t c1).alloc _).alloc _).alloc _
theorem newXb (w : World) (c1 c2 c3 c4 : Array Value) (t : TypeId) : Blk ((((w.alloc (.cells c1 t)).alloc (.cells c2 t)).alloc (.cells c3 t)).alloc (.cells c4 t)) (w.heap.size + 1) t c2 := ((Blk.new' (by simp) t c2).alloc _).alloc _
set_option maxRecDepth 100000
set_option maxHeartbeats 4000000
theorem br_12f (a b c d p q r s : Int) (w : World) (ha : I32 a) (hb : I32 b) (hc : I32 c) (hd : I32 d) (hp : I32 p) (hq : I32 q) (hr : I32 r) (hs : I32 s) : Calls Tryz.prog 42 #[.int .i64 12, rgV a b c d, rgV p q r s, .bool false] w (RgBB w) := by
  have hY := newYZ w (rgC a b c d) (rgC p q r s) (rgC 0 0 0 0) (rgC 0 0 0 0) 54; have hZ := newZ w (rgC a b c d) (rgC p q r s) (rgC 0 0 0 0) (rgC 0 0 0 0) 54; have hB := below_alloc (below_alloc (below_alloc (below_new w (.cells (rgC a b c d) 54)) (.cells (rgC p q r s) 54)) (.cells (rgC 0 0 0 0) 54)) (.cells (rgC 0 0 0 0) 54); have ly := le_2 w; have lz := le_3 w; have nyz := ne_23 w; have nzy := ne_32 w; have hA := newXa w (rgC a b c d) (rgC p q r s) (rgC 0 0 0 0) (rgC 0 0 0 0) 54; have hE := newXb w (rgC a b c d) (rgC p q r s) (rgC 0 0 0 0) (rgC 0 0 0 0) 54; go_enter Tryz.func42, Tryz.ntmps42; go_upto_region 7 with (first | (go_at_call 63; ((with_reducible refine (c_l2Apart a b c d p q r s _ ha hb hc hd hp).mono ?_); rintro e w1 ⟨v1, x1, rfl, ⟨a1, b1, c1, d1, rfl, ha1, hb1, hc1, hd1⟩, hbb⟩; have hV := Blk.new w1 54 (rgC a1 b1 c1 d1); have hzz := (hZ.bl hbb).lt; have hA := (hA.bl hbb).alloc (.cells (rgC a1 b1 c1 d1) 54); have hE := (hE.bl hbb).alloc (.cells (rgC a1 b1 c1 d1) 54); have hY := (hY.bl hbb).alloc (.cells (rgC a1 b1 c1 d1) 54); have hZ := (hZ.bl hbb).alloc (.cells (rgC a1 b1 c1 d1) 54); have hB := below_alloc (below_step (w := w) hB hbb) (.cells (rgC a1 b1 c1 d1) 54); have hlt := hZ.lt; obtain ⟨fa0, fa1, fa2, fa3⟩ := hA.cells4; obtain ⟨fe0, fe1, fe2, fe3⟩ := hE.cells4; clear hbb)) | (go_at_call 63; ((with_reducible refine (c_l2Apart p q r s a b c d _ hp hq hr hs ha).mono ?_); rintro e w2 ⟨v2, x2, rfl, ⟨p1, q1, r1, s1, rfl, hp1, hq1, hr1, hs1⟩, hbb⟩; have hV := (hV.bl hbb).alloc (.cells (rgC p1 q1 r1 s1) 54); have hU := Blk.new w2 54 (rgC p1 q1 r1 s1); have hzz2 := (hZ.bl hbb).lt; have hA := (hA.bl hbb).alloc (.cells (rgC p1 q1 r1 s1) 54); have hE := (hE.bl hbb).alloc (.cells (rgC p1 q1 r1 s1) 54); have hY := (hY.bl hbb).alloc (.cells (rgC p1 q1 r1 s1) 54); have hZ := (hZ.bl hbb).alloc (.cells (rgC p1 q1 r1 s1) 54); have hB := below_alloc (below_step (w := w) hB hbb) (.cells (rgC p1 q1 r1 s1) 54); have hlt := hZ.lt; clear hbb))); have nvy : w1.heap.size ≠ w.heap.size + 1 + 1 := (by omega); have nuy : w2.heap.size ≠ w.heap.size + 1 + 1 := (by omega); clear hzz hzz2 hlt hA hE; generalize w2.alloc (.cells (rgC p1 q1 r1 s1) 54) = W at *; generalize w2.heap.size = g2 at *; generalize w1.heap.size = g at *; generalize w.heap.size + 1 + 1 + 1 = z at *; generalize w.heap.size + 1 + 1 = y at *; clear ha hb hc hd hp hq hr hs; rcases Bool.eq_false_or_eq_true (x1 && x2) with hx | hx
  · obtain ⟨rfl, rfl⟩ : x1 = true ∧ x2 = true := by simpa using hx
    clear hx
    obtain ⟨fd0, fd1, fd2, fd3⟩ := hY.drew.cells4; have fdf := hY.drew.frozen; obtain ⟨fe0, fe1, fe2, fe3⟩ := hZ.drew.cells4; have fef := hZ.drew.frozen; obtain ⟨fa0, fa1, fa2, fa3⟩ := hY.cells4; have faf := hY.frozen; obtain ⟨fb0, fb1, fb2, fb3⟩ := hZ.cells4; have fbf := hZ.frozen; obtain ⟨fc0, fc1, fc2, fc3⟩ := (hZ.farFour nzy (.int .i64 a1) (.int .i64 b1) (.int .i64 c1) (.int .i64 d1)).cells4; have fcf := (hZ.farFour nzy (.int .i64 a1) (.int .i64 b1) (.int .i64 c1) (.int .i64 d1)).frozen; obtain ⟨fg0, fg1, fg2, fg3⟩ := hV.cells4; obtain ⟨fh0, fh1, fh2, fh3⟩ := hU.cells4; obtain ⟨fi0, fi1, fi2, fi3⟩ := (hV.farFour (k := y) nvy (.int .i64 a1) (.int .i64 b1) (.int .i64 c1) (.int .i64 d1)).cells4; obtain ⟨fj0, fj1, fj2, fj3⟩ := (hU.farFour (k := y) nuy (.int .i64 a1) (.int .i64 b1) (.int .i64 c1) (.int .i64 d1)).cells4; obtain ⟨fk0, fk1, fk2, fk3⟩ := (hV.drew.farFour (k := y) nvy (.int .i64 a1) (.int .i64 b1) (.int .i64 c1) (.int .i64 d1)).cells4; obtain ⟨fl0, fl1, fl2, fl3⟩ := (hU.drew.farFour (k := y) nuy (.int .i64 a1) (.int .i64 b1) (.int .i64 c1) (.int .i64 d1)).cells4; obtain ⟨fm0, fm1, fm2, fm3⟩ := (hZ.drew.farFour (k := y) nzy (.int .i64 a1) (.int .i64 b1) (.int .i64 c1) (.int .i64 d1)).cells4; have fmf := (hZ.drew.farFour (k := y) nzy (.int .i64 a1) (.int .i64 b1) (.int .i64 c1) (.int .i64 d1)).frozen
    go_upto_region 9 with fail
    go_big_region
    go_wp2_with fail
    ((with_reducible refine end_rgb2 (i := 8) (j := 9) (k := 10) ((hY.four _ _ _ _).farFour nyz _ _ _ _).drew ((hZ.farFour nzy _ _ _ _).four _ _ _ _).drew (below_drew (below_four (below_four hB ly _ _ _ _) lz _ _ _ _)) (r32_mk ha1 hb1 hc1 hd1) (r32_mk hp1 hq1 hr1 hs1) ?_ ?_ ?_ ?_ ?_) <;> (first | rfl | exact ⟨_, rfl⟩))
  · obtain ⟨fa0, fa1, fa2, fa3⟩ := hY.cells4; have faf := hY.frozen; obtain ⟨fb0, fb1, fb2, fb3⟩ := hZ.cells4; have fbf := hZ.frozen; obtain ⟨fc0, fc1, fc2, fc3⟩ := (hZ.farFour nzy (.int .i64 1) (.int .i64 0) (.int .i64 0) (.int .i64 0)).cells4; have fcf := (hZ.farFour nzy (.int .i64 1) (.int .i64 0) (.int .i64 0) (.int .i64 0)).frozen
    rcases Bool.eq_false_or_eq_true x1 with h1 | h1
    · obtain rfl : x2 = false := by simpa [h1] using hx
      subst h1
      clear hx
      go_wp2_with fail
      ((with_reducible refine end_rgb2 (i := 8) (j := 9) (k := 10) ((hY.four _ _ _ _).farFour nyz _ _ _ _) ((hZ.farFour nzy _ _ _ _).four _ _ _ _) (below_four (below_four hB ly _ _ _ _) lz _ _ _ _) r32_1 r32_1 ?_ ?_ ?_ ?_ ?_) <;> (first | rfl | exact ⟨_, rfl⟩))
    · subst h1
      clear hx
      go_wp2_with fail
      ((with_reducible refine end_rgb2 (i := 8) (j := 9) (k := 10) ((hY.four _ _ _ _).farFour nyz _ _ _ _) ((hZ.farFour nzy _ _ _ _).four _ _ _ _) (below_four (below_four hB ly _ _ _ _) lz _ _ _ _) r32_1 r32_1 ?_ ?_ ?_ ?_ ?_) <;> (first | rfl | exact ⟨_, rfl⟩))
theorem br_13t (a b c d p q r s : Int) (w : World) (ha : I32 a) (hb : I32 b) (hc : I32 c) (hd : I32 d) (hp : I32 p) (hq : I32 q) (hr : I32 r) (hs : I32 s) : Calls Tryz.prog 42 #[.int .i64 13, rgV a b c d, rgV p q r s, .bool true] w (RgBB w) := by
  have hY := newYZ w (rgC a b c d) (rgC p q r s) (rgC 0 0 0 0) (rgC 0 0 0 0) 54; have hZ := newZ w (rgC a b c d) (rgC p q r s) (rgC 0 0 0 0) (rgC 0 0 0 0) 54; have hB := below_alloc (below_alloc (below_alloc (below_new w (.cells (rgC a b c d) 54)) (.cells (rgC p q r s) 54)) (.cells (rgC 0 0 0 0) 54)) (.cells (rgC 0 0 0 0) 54); have ly := le_2 w; have lz := le_3 w; have nyz := ne_23 w; have nzy := ne_32 w; have hA := newXa w (rgC a b c d) (rgC p q r s) (rgC 0 0 0 0) (rgC 0 0 0 0) 54; have hE := newXb w (rgC a b c d) (rgC p q r s) (rgC 0 0 0 0) (rgC 0 0 0 0) 54; go_enter Tryz.func42, Tryz.ntmps42; go_upto_region 7 with (first | (go_at_call 63; ((with_reducible refine (c_l2Apart a b c d p q r s _ ha hb hc hd hp).mono ?_); rintro e w1 ⟨v1, x1, rfl, ⟨a1, b1, c1, d1, rfl, ha1, hb1, hc1, hd1⟩, hbb⟩; have hV := Blk.new w1 54 (rgC a1 b1 c1 d1); have hzz := (hZ.bl hbb).lt; have hA := (hA.bl hbb).alloc (.cells (rgC a1 b1 c1 d1) 54); have hE := (hE.bl hbb).alloc (.cells (rgC a1 b1 c1 d1) 54); have hY := (hY.bl hbb).alloc (.cells (rgC a1 b1 c1 d1) 54); have hZ := (hZ.bl hbb).alloc (.cells (rgC a1 b1 c1 d1) 54); have hB := below_alloc (below_step (w := w) hB hbb) (.cells (rgC a1 b1 c1 d1) 54); have hlt := hZ.lt; obtain ⟨fa0, fa1, fa2, fa3⟩ := hA.cells4; obtain ⟨fe0, fe1, fe2, fe3⟩ := hE.cells4; clear hbb)) | (go_at_call 63; ((with_reducible refine (c_l2Apart p q r s a b c d _ hp hq hr hs ha).mono ?_); rintro e w2 ⟨v2, x2, rfl, ⟨p1, q1, r1, s1, rfl, hp1, hq1, hr1, hs1⟩, hbb⟩; have hV := (hV.bl hbb).alloc (.cells (rgC p1 q1 r1 s1) 54); have hU := Blk.new w2 54 (rgC p1 q1 r1 s1); have hzz2 := (hZ.bl hbb).lt; have hA := (hA.bl hbb).alloc (.cells (rgC p1 q1 r1 s1) 54); have hE := (hE.bl hbb).alloc (.cells (rgC p1 q1 r1 s1) 54); have hY := (hY.bl hbb).alloc (.cells (rgC p1 q1 r1 s1) 54); have hZ := (hZ.bl hbb).alloc (.cells (rgC p1 q1 r1 s1) 54); have hB := below_alloc (below_step (w := w) hB hbb) (.cells (rgC p1 q1 r1 s1) 54); have hlt := hZ.lt; clear hbb))); have nvy : w1.heap.size ≠ w.heap.size + 1 + 1 := (by omega); have nuy : w2.heap.size ≠ w.heap.size + 1 + 1 := (by omega); clear hzz hzz2 hlt hA hE; generalize w2.alloc (.cells (rgC p1 q1 r1 s1) 54) = W at *; generalize w2.heap.size = g2 at *; generalize w1.heap.size = g at *; generalize w.heap.size + 1 + 1 + 1 = z at *; generalize w.heap.size + 1 + 1 = y at *; clear ha hb hc hd hp hq hr hs; rcases Bool.eq_false_or_eq_true (x1 && x2) with hx | hx
  · obtain ⟨rfl, rfl⟩ : x1 = true ∧ x2 = true := by simpa using hx
    clear hx
    obtain ⟨fd0, fd1, fd2, fd3⟩ := hY.drew.cells4; have fdf := hY.drew.frozen; obtain ⟨fe0, fe1, fe2, fe3⟩ := hZ.drew.cells4; have fef := hZ.drew.frozen; obtain ⟨fa0, fa1, fa2, fa3⟩ := hY.cells4; have faf := hY.frozen; obtain ⟨fb0, fb1, fb2, fb3⟩ := hZ.cells4; have fbf := hZ.frozen; obtain ⟨fc0, fc1, fc2, fc3⟩ := (hZ.farFour nzy (.int .i64 a1) (.int .i64 b1) (.int .i64 c1) (.int .i64 d1)).cells4; have fcf := (hZ.farFour nzy (.int .i64 a1) (.int .i64 b1) (.int .i64 c1) (.int .i64 d1)).frozen; obtain ⟨fg0, fg1, fg2, fg3⟩ := hV.cells4; obtain ⟨fh0, fh1, fh2, fh3⟩ := hU.cells4; obtain ⟨fi0, fi1, fi2, fi3⟩ := (hV.farFour (k := y) nvy (.int .i64 a1) (.int .i64 b1) (.int .i64 c1) (.int .i64 d1)).cells4; obtain ⟨fj0, fj1, fj2, fj3⟩ := (hU.farFour (k := y) nuy (.int .i64 a1) (.int .i64 b1) (.int .i64 c1) (.int .i64 d1)).cells4; obtain ⟨fk0, fk1, fk2, fk3⟩ := (hV.drew.farFour (k := y) nvy (.int .i64 a1) (.int .i64 b1) (.int .i64 c1) (.int .i64 d1)).cells4; obtain ⟨fl0, fl1, fl2, fl3⟩ := (hU.drew.farFour (k := y) nuy (.int .i64 a1) (.int .i64 b1) (.int .i64 c1) (.int .i64 d1)).cells4; obtain ⟨fm0, fm1, fm2, fm3⟩ := (hZ.drew.farFour (k := y) nzy (.int .i64 a1) (.int .i64 b1) (.int .i64 c1) (.int .i64 d1)).cells4; have fmf := (hZ.drew.farFour (k := y) nzy (.int .i64 a1) (.int .i64 b1) (.int .i64 c1) (.int .i64 d1)).frozen
    go_upto_region 9 with fail
    go_big_region
    go_wp2_with fail
    ((with_reducible refine end_rgb2 (i := 8) (j := 9) (k := 10) ((hY.four _ _ _ _).farFour nyz _ _ _ _).drew ((hZ.farFour nzy _ _ _ _).four _ _ _ _).drew (below_drew (below_four (below_four hB ly _ _ _ _) lz _ _ _ _)) (r32_mk ha1 hb1 hc1 hd1) (r32_mk hp1 hq1 hr1 hs1) ?_ ?_ ?_ ?_ ?_) <;> (first | rfl | exact ⟨_, rfl⟩))
  · obtain ⟨fa0, fa1, fa2, fa3⟩ := hY.cells4; have faf := hY.frozen; obtain ⟨fb0, fb1, fb2, fb3⟩ := hZ.cells4; have fbf := hZ.frozen; obtain ⟨fc0, fc1, fc2, fc3⟩ := (hZ.farFour nzy (.int .i64 1) (.int .i64 0) (.int .i64 0) (.int .i64 0)).cells4; have fcf := (hZ.farFour nzy (.int .i64 1) (.int .i64 0) (.int .i64 0) (.int .i64 0)).frozen
    rcases Bool.eq_false_or_eq_true x1 with h1 | h1
    · obtain rfl : x2 = false := by simpa [h1] using hx
      subst h1
      clear hx
      go_wp2_with fail
      ((with_reducible refine end_rgb2 (i := 8) (j := 9) (k := 10) ((hY.four _ _ _ _).farFour nyz _ _ _ _) ((hZ.farFour nzy _ _ _ _).four _ _ _ _) (below_four (below_four hB ly _ _ _ _) lz _ _ _ _) r32_1 r32_1 ?_ ?_ ?_ ?_ ?_) <;> (first | rfl | exact ⟨_, rfl⟩))
    · subst h1
      clear hx
      go_wp2_with fail
      ((with_reducible refine end_rgb2 (i := 8) (j := 9) (k := 10) ((hY.four _ _ _ _).farFour nyz _ _ _ _) ((hZ.farFour nzy _ _ _ _).four _ _ _ _) (below_four (below_four hB ly _ _ _ _) lz _ _ _ _) r32_1 r32_1 ?_ ?_ ?_ ?_ ?_) <;> (first | rfl | exact ⟨_, rfl⟩))
theorem c_l2Branch (o : Int) (x : Bool) (ho : 12 ≤ o) (ho' : o ≤ 15) (a b c d p q r s : Int) (w : World) (ha : I32 a) (hb : I32 b) (hc : I32 c) (hd : I32 d) (hp : I32 p) (hq : I32 q) (hr : I32 r) (hs : I32 s) : Calls Tryz.prog 42 #[.int .i64 o, rgV a b c d, rgV p q r s, .bool x] w (RgBB w) := by
  rcases (show o = 12 ∨ o = 13 ∨ o = 14 ∨ o = 15 by omega) with rfl | rfl | rfl | rfl <;> cases x
  · exact br_12f a b c d p q r s w ha hb hc hd hp hq hr hs
  · exact br_12t a b c d p q r s w ha hb hc hd hp hq hr hs
  · exact br_13f a b c d p q r s w ha hb hc hd hp hq hr hs
  · exact br_13t a b c d p q r s w ha hb hc hd hp hq hr hs
  · exact br_14f a b c d p q r s w ha hb hc hd hp hq hr hs
  · exact br_14t a b c d p q r s w ha hb hc hd hp hq hr hs
  · exact br_15f a b c d p q r s w ha hb hc hd hp hq hr hs
  · exact br_15t a b c d p q r s w ha hb hc hd hp hq hr hs
end Go.Proofs.YtlofelnfcdbedaaGreat.S
namespace Go.Proofs.YtlofelnfcdbedaaGreat.S
open Go.RowKit Go.BigFrame Go.Sort
set_option linter.unusedVariables false
set_option linter.unusedSimpArgs false

theorem run_allocRg (ρ : Operand → Value) (o : Oper) (ho : o.op = .alloc 54) (w : World) : (execOp ρ o).run Tryz.prog w = .ok (.value (.pointer (some ⟨w.heap.size, 0, none⟩))) (w.alloc (.cells (rgC 0 0 0 0) 54)) := by
  unfold execOp
  rw [ho]
  go_simp
/-- A block was laid: V is W and that. -/
structure Laid (W V : World) (g : Nat) (t : TypeId) (cs : Array Value) : Prop where
  bl : Below W.heap.size W V
  blk : Blk V g t cs
  ge : W.heap.size ≤ g
theorem Laid.new (W : World) (t : TypeId) (cs : Array Value) : Laid W (W.alloc (.cells cs t)) W.heap.size t cs := ⟨below_new W _, Blk.new W t cs, Nat.le_refl _⟩
theorem any_alloc1 {P : Program} {ops : Array Oper} {Q : Exit → Act → World → Prop} {fuel : Nat} {listed : Array Bool} {a : Act} {W : World} {i : Nat} (o : Oper) {t : TypeId} {cs : Array Value} (hr : Region.ready .any ops listed = [i]) (ho : ops[i]? = some o) (hg : o.guard = none)
    (hrun : ∀ w, (execOp a.eval o).run P w = .ok (.value (.pointer (some ⟨w.heap.size, 0, none⟩))) (w.alloc (.cells cs t)))
    (h : ∀ (V : World) (g : Nat), Laid W V g t cs → wpAny P .any ops Q fuel (listed.setIfInBounds i true) (a.put o.dst (.pointer (some ⟨g, 0, none⟩))) V) : wpAny P .any ops Q (fuel + 1) listed a W := by
  refine wpAny_ready hr (by simp) (AllReady.cons ho (fun K hK => ?_) AllReady.nil)
  rw [if_pos (by simp [Region.wanted, hg])]
  unfold Oper.wp
  rw [hrun]
  exact hK _ _ (h _ _ (Laid.new W t cs))
theorem put_put {a : Act} {d e : Tmp} (hne : d ≠ e) (u v : Value) : (a.put (some d) u).put (some e) v = (a.put (some e) v).put (some d) u := by
  simp only [Act.put]
  congr 1
  apply Array.ext_getElem?
  intro k
  simp only [Array.getElem?_setIfInBounds, Array.size_setIfInBounds]
  by_cases h1 : d = k
  · by_cases h2 : e = k
    · exact absurd (h1.trans h2.symm) hne
    · simp [h1, h2]
  · by_cases h2 : e = k
    · simp [h1, h2]
    · simp [h1, h2]
theorem any_alloc2 {P : Program} {ops : Array Oper} {Q : Exit → Act → World → Prop} {fuel : Nat} {listed : Array Bool} {a : Act} {W : World} {i j : Nat} (o o' : Oper) {d e : Tmp} {t : TypeId} {cs : Array Value} (hr : Region.ready .any ops listed = [i, j]) (ho : ops[i]? = some o) (ho' : ops[j]? = some o') (hg : o.guard = none) (hg' : o'.guard = none)
    (hrun : ∀ (a : Act) w, (execOp a.eval o).run P w = .ok (.value (.pointer (some ⟨w.heap.size, 0, none⟩))) (w.alloc (.cells cs t)))
    (hrun' : ∀ (a : Act) w, (execOp a.eval o').run P w = .ok (.value (.pointer (some ⟨w.heap.size, 0, none⟩))) (w.alloc (.cells cs t)))
    (hr1 : Region.ready .any ops (listed.setIfInBounds i true) = [j]) (hr2 : Region.ready .any ops (listed.setIfInBounds j true) = [i]) (hl : (listed.setIfInBounds j true).setIfInBounds i true = (listed.setIfInBounds i true).setIfInBounds j true)
    (hd : o.dst = some d) (hd' : o'.dst = some e) (hne : d ≠ e)
    (h : ∀ (V : World) (g g' : Nat), Below W.heap.size W V → Blk V g t cs → Blk V g' t cs → W.heap.size ≤ g → W.heap.size ≤ g' → g ≠ g' → wpAny P .any ops Q fuel ((listed.setIfInBounds i true).setIfInBounds j true) ((a.put (some d) (.pointer (some ⟨g, 0, none⟩))).put (some e) (.pointer (some ⟨g', 0, none⟩))) V) : wpAny P .any ops Q (fuel + 2) listed a W := by
  refine wpAny_ready hr (by simp) (AllReady.cons ho (fun K hK => ?_) (AllReady.cons ho' (fun K hK => ?_) AllReady.nil))
  · rw [if_pos (by simp [Region.wanted, hg])]
    unfold Oper.wp
    rw [hrun]
    refine hK _ _ (any_alloc1 o' hr1 ho' hg' (hrun' _) fun V g' hV => ?_)
    rw [hd, hd']
    exact h V _ g' (below_step (below_new W _) hV.bl) ((Blk.new W t cs).bl hV.bl) hV.blk (Nat.le_refl _) (by have := hV.ge; simp at this; omega) (by have := hV.ge; simp at this; omega)
  · rw [if_pos (by simp [Region.wanted, hg'])]
    unfold Oper.wp
    rw [hrun']
    refine hK _ _ (any_alloc1 o hr2 ho hg (hrun _) fun V g hV => ?_)
    rw [hd, hd', hl, put_put (Ne.symm hne)]
    exact h V g _ (below_step (below_new W _) hV.bl) hV.blk ((Blk.new W t cs).bl hV.bl) (by have := hV.ge; simp at this; omega) (Nat.le_refl _) (by have := hV.ge; simp at this; omega)
end Go.Proofs.YtlofelnfcdbedaaGreat.S
namespace Go.Proofs.YtlofelnfcdbedaaGreat.S
open Go.RowKit Go.BigFrame Go.Sort
set_option linter.unusedVariables false
set_option linter.unusedSimpArgs false

section
variable {P : Program} {ops : Array Oper} {Q : Exit → Act → World → Prop} {K : Act → World → Prop} {i : Nat} {o : Oper} {a : Act} {w : World}
theorem wpOp_run (ho : ops[i]? = some o) (hg : o.guard = none) {w' : World} {v : Value} (hr : (execOp a.eval o).run P w = .ok (.value v) w') (h : K (a.put o.dst v) w') : wpOp P ops Q i K a w :=
  wpOp_step ho fun K' hK => by
    rw [if_pos (by simp [Region.wanted, hg])]
    unfold Oper.wp
    rw [hr]
    exact hK _ _ h
theorem wpOp_skip (ho : ops[i]? = some o) (hg : o.guard = none) {w' : World} (hr : (execOp a.eval o).run P w = .ok .skip w') (h : K (a.put o.dst undef) w') : wpOp P ops Q i K a w :=
  wpOp_step ho fun K' hK => by
    rw [if_pos (by simp [Region.wanted, hg])]
    unfold Oper.wp
    rw [hr]
    exact hK _ _ h
theorem wpOp_call (ho : ops[i]? = some o) (hg : o.guard = none) {f : FuncId} {args : Array Operand} {ts : Array TypeId} (hop : o.op = .call { callee := .value (.func f), args, argTypes := ts }) (eg : ∀ args w, (callFunc f args).run P w = .ok (.enter f args) w)
    (h : Calls P f (args.map a.eval) w fun e w' => ∃ v, e = .returned v ∧ K (a.put o.dst v) w') : wpOp P ops Q i K a w :=
  wpOp_step ho fun K' hK => by
    rw [if_pos (by simp [Region.wanted, hg])]
    have hr : (execOp a.eval o).run P w = .ok (.enter f (args.map a.eval)) w := by
      unfold execOp
      rw [hop]
      simp [resolve, Deferred.ofValue, invoke, Act.eval, eg]
    unfold Oper.wp
    rw [hr, Oper.upon_enter]
    refine Calls.mono h ?_
    rintro e w' ⟨v, rfl, hk⟩
    exact hK _ _ hk
theorem run_moveV {ρ : Operand → Value} (x : Operand) (h : o.op = .move x) (w : World) : (execOp ρ o).run P w = .ok (.value (ρ x)) w := BigFrame.run_move x h w
theorem run_extractV {ρ : Operand → Value} (x : Operand) (k : Nat) {vs : Array Value} {v : Value} (h : o.op = .extract x k) (hx : ρ x = .tuple vs) (hv : vs[k]? = some v) (w : World) : (execOp ρ o).run P w = .ok (.value v) w := by
  unfold execOp
  rw [h]
  simp [hx, hv, go_sem]
end
theorem run_storeRg {ρ : Operand → Value} {o : Oper} (p x : Operand) (ho : o.op = .store 54 p x) {W : World} {g : Nat} {u1 u2 u3 u4 : Value} {a b c d : Int} (hp : ρ p = .pointer (some ⟨g, 0, none⟩)) (hx : ρ x = rgV a b c d) (h : Blk W g 54 #[u1, u2, u3, u4]) : (execOp ρ o).run Tryz.prog W = .ok .skip ((((W.setCell ⟨g, 0, none⟩ (.int .i64 a)).setCell ⟨g, 1, none⟩ (.int .i64 b)).setCell ⟨g, 2, none⟩ (.int .i64 c)).setCell ⟨g, 3, none⟩ (.int .i64 d)) := by
  obtain ⟨h0, h1, h2, h3⟩ := h.cells4
  have hf := h.frozen
  unfold execOp
  rw [ho]
  simp [hp, hx, h0, h1, h2, h3, hf, go_sem]
end Go.Proofs.YtlofelnfcdbedaaGreat.S
