/- Starts are drawn. Rules, bytes: drawn. -/
import Derived.Test.YtlofelnfcdbedaaGreatK13
import Derived.Test.YtlofelnfcdbedaaGreatK9
import Derived.Test.YtlofelnfcdbedaaGreatK3
namespace Go.Proofs.YtlofelnfcdbedaaGreat.S
open Go.RowKit Go.BigFrame Go.Sort
set_option linter.unusedVariables false
set_option linter.unusedSimpArgs false

set_option maxHeartbeats 1000000 in
theorem c_l20Tables (B g M : Nat) (w : World) (h : Rd B g M w) (hM : M ≤ 1040000000000) : Calls Tryz.prog 33 #[.pointer (some ⟨g, 0, none⟩)] w fun e w' => ∃ (A : Option Addr) (n c : Nat), e = .returned (.slice A n c) ∧ Rd B g (M + 90) w' ∧ Fr w g w' := by
  have hgl := h.lt
  have h0 := Fr.refl w g
  go_enter Tryz.func33, Tryz.ntmps33
  go_wp2_with (first | (go_at_call 53; ((with_reducible refine (c_l20Table _ _ _ _ (by with_reducible (repeat (first | assumption | apply Rd.alloc | apply Rd.drewN | apply Rd.drew))) ?_).mono ?_); omega; rintro e W1 ⟨v1, rfl, hv1, rR, rG⟩; obtain ⟨k1, r1, s1, A1, A1', n1, c1, c1', rfl, hv1⟩ := hv1; have rF := Fr.call (by with_reducible (repeat (first | assumption | apply Fr.alloc | apply Fr.drewN | apply Fr.drew))) rG; have rL := rR.lt; have rS := rG.size; (try simp only [World.size_alloc] at rS))) | (go_at_call 13; (with_reducible refine (c_pick 6 _ _ _ _ (by with_reducible (repeat (first | assumption | apply Rd.alloc | apply Rd.drewN | apply Rd.drew))) ?_).mono ?_); omega; rintro e W ⟨q, rfl, ql, qh, qz, qR, qG⟩; have qF := Fr.call (by with_reducible (repeat (first | assumption | apply Fr.alloc | apply Fr.drewN | apply Fr.drew))) qG; have qL := qR.lt; have qS := qG.size; (try simp only [World.size_alloc] at qS)) | (go_at_call 13; (with_reducible refine (c_pick 2 _ _ _ _ (by with_reducible (repeat (first | assumption | apply Rd.alloc | apply Rd.drewN | apply Rd.drew))) ?_).mono ?_); omega; rintro e W ⟨q, rfl, ql, qh, qz, qR, qG⟩; have qF := Fr.call (by with_reducible (repeat (first | assumption | apply Fr.alloc | apply Fr.drewN | apply Fr.drew))) qG; have qL := qR.lt; have qS := qG.size; (try simp only [World.size_alloc] at qS)))
  all_goals
    go_ret
    exact ⟨_, _, _, rfl, qR.mono (by omega), qF⟩
set_option maxRecDepth 100000 in
set_option maxHeartbeats 4000000 in
theorem c_l20Start (B g M : Nat) (w : World) (h : Rd B g M w) (hM : M ≤ 1030000000000) : Calls Tryz.prog 21 #[.pointer (some ⟨g, 0, none⟩)] w (StartDrawn B g M w) := by
  have hgl := h.lt
  have h0 := Fr.refl w g
  have hX := Blk.new w 48 #[.slice none 0 0, .string ⟨#[]⟩, .slice none 0 0, .slice none 0 0, .slice none 0 0]
  go_enter Tryz.func21, Tryz.ntmps21
  go_wp2_with (first | (go_at_call 32; ((with_reducible refine (c_l20Prog _ _ _ _ (by with_reducible (repeat (first | assumption | apply Rd.alloc | apply Rd.drewN | apply Rd.drew))) ?_).mono ?_); omega; rintro e W1 ⟨v1, n1, rfl, hP, hP1, hP2, pR, pG⟩; have pF := Fr.call (by with_reducible (repeat (first | assumption | apply Fr.alloc | apply Fr.drewN | apply Fr.drew))) pG; have pL := pR.lt; have pS := pG.size; (try simp only [World.size_alloc] at pS); obtain ⟨A1, c1, rfl, _⟩ := hP.shape; have hX := hX.grown pG (by simp; omega))) | (go_at_call 33; ((with_reducible refine (c_l20Tables _ _ _ _ (by with_reducible (repeat (first | assumption | apply Rd.alloc | apply Rd.drewN | apply Rd.drew))) ?_).mono ?_); omega; rintro e W2 ⟨A2, n2, c2, rfl, tR, tG⟩; have tF := Fr.call (by with_reducible (repeat (first | assumption | apply Fr.alloc | apply Fr.drewN | apply Fr.drew))) tG; have tL := tR.lt; have tS := tG.size; (try simp only [World.size_alloc] at tS); have hX := hX.grown tG (by simp; omega))))
  have hQ : Blk ((W2.alloc (.cells (stC (.slice A1 n1 c1) ⟨#[]⟩ (.slice A2 n2 c2) (.slice none 0 0) (.slice none 0 0)) 48)).alloc (.cells #[] 5)) W2.heap.size 48 _ := (Blk.new W2 48 (stC (.slice A1 n1 c1) ⟨#[]⟩ (.slice A2 n2 c2) (.slice none 0 0) (.slice none 0 0))).alloc _
  go_loopw [4, 5] (fun v i W => ∃ j : Nat, i = .int .i64 j ∧ j ≤ 12 ∧ OwnP isB W w.heap.size 5 1 v j ∧ Blk W W2.heap.size 48 (stC (.slice A1 n1 c1) ⟨#[]⟩ (.slice A2 n2 c2) (.slice none 0 0) (.slice none 0 0)) ∧ Blk W w.heap.size 48 #[.slice none 0 0, .string ⟨#[]⟩, .slice none 0 0, .slice none 0 0, .slice none 0 0] ∧ Rd B g (M + 310 + j) W ∧ Fr w g W) (fun _ i _ => 12 - (intOf i).toNat)
  case atStart => exact ⟨0, rfl, by omega, OwnP.empty' isB _ _ _ _ _ (by simp; omega) (by simp), hQ, (hX.alloc _).alloc _, (tR.alloc _).alloc _, (tF.alloc _).alloc _⟩
  case round =>
    obtain ⟨j, rfl, hj, hO, hQ, hX, hR, hF⟩ := hrel
    obtain ⟨A3, c3, rfl, hc⟩ := hO.shape
    have hql := hQ.lt
    have hFs := hF.size
    have hge := hR.ge
    obtain ⟨ax0, ax1, ax2, ax3, ax4⟩ := hQ.cells5; have axf := hQ.frozen
    by_cases hj12 : j < 12
    · have hd : decide (j < 12) = true := decide_eq_true hj12
      have hd' : decide ((j : Int) < 12) = true := by simp; omega
      go_wp2_with (first | ((go_at_call 31; (with_reducible refine (c_one_lit (0) (255) _ _ _ _ _ _ _ _ ?_ ?_ (by with_reducible (repeat (first | assumption | apply Rd.alloc | apply Rd.drewN | apply Rd.drew))) ?_).mono ?_); simp; decide; omega; rintro e W3 ⟨r, rfl, rl, rh, rR, rG⟩; have rF := Fr.call (by with_reducible (repeat (first | assumption | apply Fr.alloc | apply Fr.drewN | apply Fr.drew))) rG; have rL := rR.lt; have rS := rG.size; (try simp only [World.size_alloc] at rS)); have hO := (hO.alloc _).gr rG hgl; have hQ := (hQ.alloc _).grown rG (by simp; omega); have hX := (hX.alloc _).grown rG (by simp; omega)) | (at_builtin; ((with_reducible refine app_p isB isB_one elt_byte rfl _ _ rfl _ _ _ w.heap.size (.slice A3 j c3) j rfl _ _ _ rfl ?_ ?_ ?_ hO ?_ ?_ rF.size ?_); (focus first | omega | (simp; done) | (simp; omega) | (simp [Value.ownBlock]; done) | (simp [Value.ownBlock]; omega)); rfl; (simp [isB]); omega; omega; intro v' w' hO' hG'; have hQ := hQ.grown hG' (fun e => hO.notBlk hQ (by decide) e.symm); have hX := hX.grown hG' (fun e => hO.notBlk hX (by decide) e.symm); have oR := rR.grown hG' (fun k hk => (by have h1 := (hO.lt k hk).1; omega)); have oF := rF.own hG' (fun k hk => (hO.lt k hk).1))))
      exact ⟨⟨j + 1, by go_num, by omega, hO', hQ, hX, oR.mono (by omega), oF⟩, by simp [intOf]; omega⟩
    · have hd : decide (j < 12) = false := decide_eq_false hj12
      have hd' : decide ((j : Int) < 12) = false := by simp; omega
      obtain ⟨s, hs, hconv⟩ := text_of hO
      have hR := hR.set (q := ⟨W2.heap.size, 1, none⟩) (.string s) (by simp; omega)
      have hF := hF.set ⟨W2.heap.size, 1, none⟩ (.string s) (by simp; omega)
      have hQ := hQ.set_ 1 (.string s)
      have hX := hX.far (p := ⟨W2.heap.size, 1, none⟩) (by simp; omega) (.string s)
      go_wp2_with ((go_at_call 13; (with_reducible refine (c_pick 3 _ _ _ _ (by with_reducible (repeat (first | assumption | apply Rd.alloc | apply Rd.drewN | apply Rd.drew))) ?_).mono ?_); omega; rintro e W4 ⟨m, rfl, ml, mh, mz, mR, mG⟩; have mF := Fr.call (by with_reducible (repeat (first | assumption | apply Fr.alloc | apply Fr.drewN | apply Fr.drew))) mG; have mL := mR.lt; have mS := mG.size; (try simp only [World.size_alloc] at mS)); have hQ := hQ.grown mG (by simp; omega); have hX := hX.grown mG (by simp; omega))
      obtain ⟨N, rfl⟩ : ∃ N : Nat, m = N := ⟨m.toNat, by omega⟩
      go_loopw [6] (fun i W => ∃ (q n3 : Nat) (A3 : Option Addr) (c3 : Nat), i = .int .i64 q ∧ n3 + q ≤ 3 ∧ OwnI W w.heap.size 3 1 (.slice A3 n3 c3) n3 ∧ Blk W W2.heap.size 48 (stC (.slice A1 n1 c1) s (.slice A2 n2 c2) (.slice A3 n3 c3) (.slice none 0 0)) ∧ Blk W w.heap.size 48 #[.slice none 0 0, .string ⟨#[]⟩, .slice none 0 0, .slice none 0 0, .slice none 0 0] ∧ Rd B g (M + 330 + 3 * (3 - q)) W ∧ Fr w g W) (fun i _ => (intOf i).toNat)
      case atStart => exact ⟨1 + N, 0, none, 0, by go_num, by omega, OwnP.nil _ _ _ _ _, hQ, hX, mR.mono (by omega), mF⟩
      case round =>
        obtain ⟨q, n3, A5, c5, rfl, hq, hO, hQ, hX, hR, hF⟩ := hrel
        have hql := hQ.lt
        have hFs := hF.size
        have hge := hR.ge
        obtain ⟨ax0, ax1, ax2, ax3, ax4⟩ := hQ.cells5; have axf := hQ.frozen
        by_cases hq0 : 0 < q
        · have hd : decide (0 < q) = true := decide_eq_true hq0
          have hd' : decide ((0 : Int) < (q : Int)) = true := by simp; omega
          go_upto_region 11 with fail
          obtain ⟨dx0, dx1, dx2, dx3, dx4⟩ := hQ.drew.cells5
          go_region_law (first | (refine step_app_src isI isI_one elt_int rfl _ _ rfl _ w.heap.size (.slice A5 n3 c5) n3 rfl ⟨W5.heap.size, 0, none⟩ 1 1 rfl hS5 h5 ?_ ?_ ?_ ?_; (focus first | omega | (simp; done) | (simp; omega) | (simp [Value.ownBlock]; done) | (simp [Value.ownBlock]; omega)); (focus first | omega | (simp; done) | (simp; omega) | (simp [Value.ownBlock]; done) | (simp [Value.ownBlock]; omega)); (focus (have := F5.size; simp at this ⊢; omega)); intro v6 w6 hO6 hG6; obtain ⟨A6, c6, rfl, _⟩ := hO6.shape; have hQ6 := hQ5.grown hG6 (fun e => h5.notBlk hQ5 (by decide) e.symm); have hX6 := hX5.grown hG6 (fun e => h5.notBlk hX5 (by decide) e.symm); have R6 := R5.grown hG6 (fun k hk => (by have h1 := (h5.lt k hk).1; omega)); have F6 := F5.own hG6 (fun k hk => (h5.lt k hk).1); obtain ⟨fx0, fx1, fx2, fx3, fx4⟩ := hQ6.cells5; have fxf := hQ6.frozen) | (go_simp; go_at_call 34; (with_reducible refine (c_l20Number _ _ _ _ hR.drew ?_).mono ?_); omega; rintro e W5 ⟨z, rfl, zl, zh, zR, zG⟩; have hQ5 := hQ.drew.grown zG (by simp; omega); have hX5 := hX.drew.grown zG (by simp; omega); have h5 := (hO.drew.gr zG hgl).alloc (.cells #[.int .i64 z] 3); have F5 := (Fr.call hF.drew zG).alloc (.cells #[.int .i64 z] 3); obtain ⟨ex0, ex1, ex2, ex3, ex4⟩ := hQ5.cells5; have exf := hQ5.frozen; have hQ5 := hQ5.alloc (.cells #[.int .i64 z] 3); obtain ⟨kx0, kx1, kx2, kx3, kx4⟩ := hQ5.cells5; have kxf := hQ5.frozen; have hX5 := hX5.alloc (.cells #[.int .i64 z] 3); have R5 := zR.alloc (.cells #[.int .i64 z] 3); have hS5 := src_one (p := isI) W5 3 (.int .i64 z) ⟨z, rfl⟩))
          all_goals
            have hO6 := hO6.set (q := ⟨W2.heap.size, 3, none⟩) (.slice A6 (n3 + 1) c6) (hO6.notBlk hQ6 (by decide))
            have hQ6 := hQ6.set_ 3 (.slice A6 (n3 + 1) c6)
            have hX6 := hX6.far (p := ⟨W2.heap.size, 3, none⟩) (by simp; omega) (.slice A6 (n3 + 1) c6)
            have R6 := R6.set (q := ⟨W2.heap.size, 3, none⟩) (.slice A6 (n3 + 1) c6) (by simp; omega)
            have F6 := F6.set ⟨W2.heap.size, 3, none⟩ (.slice A6 (n3 + 1) c6) (by simp; omega)
            go_wp2_with fail
            exact ⟨⟨q - 1, n3 + 1, A6, c6, by go_num, by omega, hO6, hQ6, hX6, R6.mono (by omega), F6⟩, by simp [intOf]; omega⟩
        · have hd : decide (0 < q) = false := decide_eq_false hq0
          have hd' : decide ((0 : Int) < (q : Int)) = false := by simp; omega
          go_wp2_with ((go_at_call 13; (with_reducible refine (c_pick 4 _ _ _ _ (by with_reducible (repeat (first | assumption | apply Rd.alloc | apply Rd.drewN | apply Rd.drew))) ?_).mono ?_); omega; rintro e W4 ⟨m, rfl, ml, mh, mz, mR, mG⟩; have mF := Fr.call (by with_reducible (repeat (first | assumption | apply Fr.alloc | apply Fr.drewN | apply Fr.drew))) mG; have mL := mR.lt; have mS := mG.size; (try simp only [World.size_alloc] at mS)); have hQ := hQ.grown mG (by simp; omega); have hX := hX.grown mG (by simp; omega))
          obtain ⟨N, rfl⟩ : ∃ N : Nat, m = N := ⟨m.toNat, by omega⟩
          go_loopw [7] (fun i W => ∃ (q n4 : Nat) (A4 : Option Addr) (c4 : Nat), i = .int .i64 q ∧ n4 + q ≤ 3 ∧ OwnI W w.heap.size 3 1 (.slice A4 n4 c4) n4 ∧ Blk W W2.heap.size 48 (stC (.slice A1 n1 c1) s (.slice A2 n2 c2) (.slice A5 n3 c5) (.slice A4 n4 c4)) ∧ Blk W w.heap.size 48 #[.slice none 0 0, .string ⟨#[]⟩, .slice none 0 0, .slice none 0 0, .slice none 0 0] ∧ Rd B g (M + 350 + (3 - q)) W ∧ Fr w g W) (fun i _ => (intOf i).toNat)
          case atStart => exact ⟨N, 0, none, 0, by go_num, by omega, OwnP.nil _ _ _ _ _, hQ, hX, mR.mono (by omega), mF⟩
          case round =>
            obtain ⟨q, n4, A7, c7, rfl, hq, hO, hQ, hX, hR, hF⟩ := hrel
            have hql := hQ.lt
            have hFs := hF.size
            have hge := hR.ge
            obtain ⟨ax0, ax1, ax2, ax3, ax4⟩ := hQ.cells5; have axf := hQ.frozen
            obtain ⟨bx0, bx1, bx2, bx3, bx4⟩ := hX.cells5; have bxf := hX.frozen
            by_cases hq0 : 0 < q
            · have hd : decide (0 < q) = true := decide_eq_true hq0
              have hd' : decide ((0 : Int) < (q : Int)) = true := by simp; omega
              go_upto_region 15 with fail
              obtain ⟨dx0, dx1, dx2, dx3, dx4⟩ := hQ.drew.cells5
              obtain ⟨ex0, ex1, ex2, ex3, ex4⟩ := (hQ.alloc (.cells #[.int .i64 0, .int .i64 1, .int .i64 2, .int .i64 3, .int .i64 7, .int .i64 9] 3)).drew.cells5
              go_region_law (first | (refine step_app_src isI isI_one elt_int rfl _ _ rfl _ w.heap.size (.slice A7 n4 c7) n4 rfl ⟨W5.heap.size, 0, none⟩ 1 1 rfl hS5 h5 ?_ ?_ ?_ ?_; (focus first | omega | (simp; done) | (simp; omega) | (simp [Value.ownBlock]; done) | (simp [Value.ownBlock]; omega)); (focus first | omega | (simp; done) | (simp; omega) | (simp [Value.ownBlock]; done) | (simp [Value.ownBlock]; omega)); (focus (have := F5.size; simp at this ⊢; omega)); intro v6 w6 hO6 hG6; obtain ⟨A6, c6, rfl, _⟩ := hO6.shape; have hQ6 := hQ5.grown hG6 (fun e => h5.notBlk hQ5 (by decide) e.symm); have hX6 := hX5.grown hG6 (fun e => h5.notBlk hX5 (by decide) e.symm); have R6 := R5.grown hG6 (fun k hk => (by have h1 := (h5.lt k hk).1; omega)); have F6 := F5.own hG6 (fun k hk => (h5.lt k hk).1); obtain ⟨fx0, fx1, fx2, fx3, fx4⟩ := hQ6.cells5; have fxf := hQ6.frozen) | (go_simp; (go_at_call 31; (with_reducible refine (c_one_lit_d (0) (9) _ _ _ _ _ _ _ _ ?_ ?_ (by with_reducible (repeat (first | assumption | apply Rd.alloc | apply Rd.drewN | apply Rd.drew))) ?_).mono ?_); simp; decide; omega; rintro e W5 ⟨z, rfl, zl, zh, zR, zG⟩; have zF := Fr.call (by with_reducible (repeat (first | assumption | apply Fr.alloc | apply Fr.drewN | apply Fr.drew))) zG; have zL := zR.lt; have zS := zG.size; (try simp only [World.size_alloc] at zS); (try simp only [size_drew, World.size_alloc] at zS)); have hQ5 := (hQ.alloc _).drew.grown zG (by simp; omega); have hX5 := (hX.alloc _).drew.grown zG (by simp; omega); have h5 := ((hO.alloc _).drew.gr zG hgl).alloc (.cells #[.int .i64 z] 3); have F5 := zF.alloc (.cells #[.int .i64 z] 3); obtain ⟨hx0, hx1, hx2, hx3, hx4⟩ := hQ5.cells5; have hxf := hQ5.frozen; have hQ5 := hQ5.alloc (.cells #[.int .i64 z] 3); obtain ⟨kx0, kx1, kx2, kx3, kx4⟩ := hQ5.cells5; have kxf := hQ5.frozen; have hX5 := hX5.alloc (.cells #[.int .i64 z] 3); have R5 := zR.alloc (.cells #[.int .i64 z] 3); have hS5 := src_one (p := isI) W5 3 (.int .i64 z) ⟨z, rfl⟩))
              all_goals
                have hO6 := hO6.set (q := ⟨W2.heap.size, 4, none⟩) (.slice A6 (n4 + 1) c6) (hO6.notBlk hQ6 (by decide))
                have hQ6 := hQ6.set_ 4 (.slice A6 (n4 + 1) c6)
                have hX6 := hX6.far (p := ⟨W2.heap.size, 4, none⟩) (by simp; omega) (.slice A6 (n4 + 1) c6)
                have R6 := R6.set (q := ⟨W2.heap.size, 4, none⟩) (.slice A6 (n4 + 1) c6) (by simp; omega)
                have F6 := F6.set ⟨W2.heap.size, 4, none⟩ (.slice A6 (n4 + 1) c6) (by simp; omega)
                go_wp2_with fail
                exact ⟨⟨q - 1, n4 + 1, A6, c6, by go_num, by omega, hO6, hQ6, hX6, R6.mono (by omega), F6⟩, by simp [intOf]; omega⟩
            · have hd : decide (0 < q) = false := decide_eq_false hq0
              have hd' : decide ((0 : Int) < (q : Int)) = false := by simp; omega
              go_wp2
              exact bodyPost_ret (res_start rfl _ rfl (hX.five _ _ _ _ _)) rfl ⟨_, _, _, _, _, _, _, _, _, _, _, _, _, rfl, by omega, (hR.mono (by omega)).five hgl _ _ _ _ _, hF.five (Nat.le_refl _) _ _ _ _ _⟩
end Go.Proofs.YtlofelnfcdbedaaGreat.S
namespace Go.Proofs.YtlofelnfcdbedaaGreat.S
open Go.RowKit Go.BigFrame Go.Sort
set_option linter.unusedVariables false
set_option linter.unusedSimpArgs false

theorem c_l20Few (B g M : Nat) (w : World) (h : Rd B g M w) (hM : M ≤ 1000000000) : Calls Tryz.prog 12 #[.pointer (some ⟨g, 0, none⟩)] w fun e w' => ∃ (A : Option Addr) (n c : Nat), e = .returned (.slice A n c) ∧ OwnI w' w.heap.size 40 5 (.slice A n c) n ∧ n ≤ 3 ∧ Rd B g (M + 100) w' ∧ Fr w g w' := by
  go_enter Tryz.func12, Tryz.ntmps12
  go_wp2_with (go_at_call 20; ((with_reducible refine (c_l20Rules _ _ _ _ h ?_).mono ?_); omega; rintro e w1 ⟨v, n, rfl, hO, hn, hR, hF⟩; obtain ⟨A, c, rfl, hc⟩ := hO.shape))
  all_goals
    go_ret
    first
      | exact ⟨_, _, _, rfl, hO, by omega, hR, hF⟩
      | exact ⟨_, _, _, rfl, hO.cut (m := 3) (by omega) rfl, by omega, hR, hF⟩
set_option maxRecDepth 100000 in
theorem c_DrawRulesOf (A : Option Addr) (n c B : Nat) (w : World) (hB : B ≤ w.heap.size) (hb : Bytes B A n w) (hc : n ≤ c) (hn : n ≤ 140737488351232) : Calls Tryz.prog 8 #[.slice A n c] w fun e w' => ∃ (v : Value) (s : ByteArray), e = .returned (.tuple #[v, .string s]) ∧ s.size = 12 ∧ Below w.heap.size w w' := by
  go_enter Tryz.func8, Tryz.ntmps8
  go_wp2_with (first | (go_at_call 11; ((with_reducible refine (c_l20Open _ _ _ B _ hB hb hc hn).mono ?_); rintro e w1 ⟨g, rfl, hg, hR, hb1⟩)) | (go_at_call 20; ((with_reducible refine (c_l20Rules _ _ _ _ hR ?_).mono ?_); omega; rintro e w2 ⟨v, m, rfl, hO, hm, hR2, hF2⟩; obtain ⟨A2, c2, rfl, hc2⟩ := hO.shape; have hb2 := below_rd hb1 hg hF2)) | (go_at_call 21; ((with_reducible refine (c_l20Start _ _ _ _ hR2 ?_).mono ?_); omega; rintro e w3 ⟨A3, A4, A5, A6, n3, n4, n5, n6, c3, c4, c5, c6, s, rfl, hs, hR3, hF3⟩; have hb3 := below_rd hb2 hg hF3; have hfd := field_start A3 A4 A5 A6 n3 n4 n5 n6 c3 c4 c5 c6 s w3)))
  go_ret2
  exact ⟨_, _, rfl, hs, hb3⟩
end Go.Proofs.YtlofelnfcdbedaaGreat.S
