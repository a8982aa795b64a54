/- Drawn rules. -/
import Derived.Test.YtlofelnfcdbedaaGreatK1
import Derived.WalkSpells
namespace Go.Proofs.YtlofelnfcdbedaaGreat.S
open Go.RowKit Go.BigFrame
set_option linter.unusedVariables false
set_option linter.unusedSimpArgs false

theorem elt_Rule : Elt Tryz.prog 23 40 5 40 :=
  elt_of (z := .agg #[.int .i64 0, .int .i64 0, .int .i64 0, .int .i64 0, .int .i64 0]) Tryz.underlying23 (by kernel_rfl) rfl (by decide)
set_option maxHeartbeats 1000000 in
set_option maxRecDepth 100000 in
theorem c_l20Rules (B g M : Nat) (w : World) (h : Rd B g M w) (hM : M ≤ 1000000000) :
    Calls Tryz.prog 20 #[.pointer (some ⟨g, 0, none⟩)] w fun e w' => ∃ v n, e = .returned v ∧ OwnI w' w.heap.size 40 5 v n ∧ n ≤ 6 ∧ Rd B g (M + 100) w' ∧ Fr w g w' := by
  have hgl := h.lt
  have h0 := Fr.refl w g
  go_enter Tryz.func20, Tryz.ntmps20
  go_wp2_with (go_at_call 31; (with_reducible refine (c_one_lit (0) (6) _ _ _ _ _ _ _ _ ?_ ?_ (by with_reducible (repeat (first | assumption | apply Rd.alloc | apply Rd.drewN | apply Rd.drew))) ?_).mono ?_); simp; decide; omega; rintro e w1 ⟨m, rfl, ml, mh, mR, mG⟩; have mF := Fr.call (by with_reducible (repeat (first | assumption | apply Fr.alloc | apply Fr.drewN | apply Fr.drew))) mG; have mL := mR.lt; have mS := mG.size; (try simp only [World.size_alloc] at mS))
  go_loopw [3, 4] (fun v i wr => ∃ (n k : Nat), i = .int .i64 k ∧ n + k ≤ 6 ∧ OwnI wr w.heap.size 40 5 v n ∧ Rd B g (M + 1 + 10 * n) wr ∧ Fr w g wr) (fun v i _ => (intOf i).toNat)
  case atStart =>
    exact ⟨0, m.toNat, by rw [Int.toNat_of_nonneg (by omega)], by omega, ((OwnP.empty isI w _ _ _ (Nat.le_refl _)).alloc _).gr mG hgl, mR, mF⟩
  case round =>
    obtain ⟨n, k, rfl, hlk, hO, hR, hF⟩ := hrel
    have hlt := hO.lt
    have hFs := hF.size
    by_cases hk : 0 < k
    · have hd : decide (0 < k) = true := decide_eq_true hk
      go_wp2_with (first | (at_builtin; (with_reducible refine app_i elt_Rule rfl _ _ rfl _ w _ _ u3 _ rfl _ _ _ _ _ _ rfl ?_ ?_ ?_ (hO.alloc _) (Rd.alloc rR _) (Fr.alloc rF _) hgl ?_ ?_ ?_); simp; rfl; simp [isI]; omega; omega; intro v' W hO WR WF) | (at_builtin; (with_reducible refine app_i elt_Rule rfl _ _ rfl _ w _ _ u3 _ rfl _ _ _ _ _ _ rfl ?_ ?_ ?_ (hO.set _ (fun e => by have := hlt _ e; simp at this; omega)) (Rd.set rR _ (by simp; omega)) (Fr.set rF _ _ (by simp; omega)) hgl ?_ ?_ ?_); simp; rfl; simp [isI]; omega; omega; intro v' W hO WR WF) | ((go_at_call 31; (with_reducible refine (c_one_lit (-4294967296) (4294967296) _ _ _ 7 _ _ _ _ ?_ ?_ (by with_reducible (repeat (first | assumption | apply Rd.alloc | apply Rd.drewN | apply Rd.drew))) ?_).mono ?_); simp; decide; omega; rintro e W ⟨r, rfl, rl, rh, rR, rG⟩; have rF := Fr.call (by with_reducible (repeat (first | assumption | apply Fr.alloc | apply Fr.drewN | apply Fr.drew))) rG; have rL := rR.lt; have rS := rG.size; (try simp only [World.size_alloc] at rS)); have hO := OwnP.gr (by with_reducible (repeat (first | exact hO | apply OwnP.alloc))) rG hgl; have hx := ((Blk.new _ _ _).alloc _).grown rG (by simp; omega); have hx0 := hx.cell 0; have hx1 := hx.cell 1; have hx2 := hx.cell 2; have hx3 := hx.cell 3; have hx4 := hx.cell 4; have hxf := hx.frozen 4) | ((go_at_call 31; (with_reducible refine (c_one_lit (-4294967296) (4294967296) _ _ _ _ _ _ _ _ ?_ ?_ (by with_reducible (repeat (first | assumption | apply Rd.alloc | apply Rd.drewN | apply Rd.drew))) ?_).mono ?_); simp; decide; omega; rintro e W ⟨r, rfl, rl, rh, rR, rG⟩; have rF := Fr.call (by with_reducible (repeat (first | assumption | apply Fr.alloc | apply Fr.drewN | apply Fr.drew))) rG; have rL := rR.lt; have rS := rG.size; (try simp only [World.size_alloc] at rS)); have hO := OwnP.gr (by with_reducible (repeat (first | exact hO | apply OwnP.alloc))) rG hgl) | ((go_at_call 13; (with_reducible refine (c_pick _ _ _ _ _ (by with_reducible (repeat (first | assumption | apply Rd.alloc | apply Rd.drewN | apply Rd.drew))) ?_).mono ?_); omega; rintro e W ⟨r, rfl, rl, rh, rz, rR, rG⟩; have rF := Fr.call (by with_reducible (repeat (first | assumption | apply Fr.alloc | apply Fr.drewN | apply Fr.drew))) rG; have rL := rR.lt; have rS := rG.size; (try simp only [World.size_alloc] at rS)); have hO := OwnP.gr (by with_reducible (repeat (first | exact hO | apply OwnP.alloc))) rG hgl))
      all_goals exact ⟨⟨n + 1, k - 1, by congr; omega, by omega, hO, WR.mono (by omega), WF⟩, by simp [intOf]; omega⟩
    · have hd : decide (0 < k) = false := decide_eq_false hk
      obtain ⟨A, c, rfl, hc⟩ := hO.shape
      by_cases hn : 0 < n
      · have hd2 : decide (0 < n) = true := decide_eq_true hn
        obtain ⟨b, cap, e, hb1, hb2⟩ := hO.form hn
        simp only [Value.slice.injEq] at e
        obtain ⟨rfl, _, rfl⟩ := e
        go_wp2_with (first | ((go_at_call 31; (with_reducible refine (c_one_lit (-4294967296) (4294967296) _ _ _ _ _ _ _ _ ?_ ?_ (by with_reducible (repeat (first | assumption | apply Rd.alloc | apply Rd.drewN | apply Rd.drew))) ?_).mono ?_); simp; decide; omega; rintro e W ⟨r, rfl, rl, rh, rR, rG⟩; have rF := Fr.call (by with_reducible (repeat (first | assumption | apply Fr.alloc | apply Fr.drewN | apply Fr.drew))) rG; have rL := rR.lt; have rS := rG.size; (try simp only [World.size_alloc] at rS)); have hO := OwnP.gr (by with_reducible (repeat (first | exact hO | apply OwnP.alloc))) rG hgl; have hf := hO.frozen; obtain ⟨x0, hx0⟩ := hO.cell (q.toNat * 5) (by omega); obtain ⟨x1, hx1⟩ := hO.cell (q.toNat * 5 + 1) (by omega); obtain ⟨x2, hx2⟩ := hO.cell (q.toNat * 5 + 2) (by omega)) | ((go_at_call 13; (with_reducible refine (c_pick (n : Int) _ _ _ _ (by with_reducible (repeat (first | assumption | apply Rd.alloc | apply Rd.drewN | apply Rd.drew))) ?_).mono ?_); omega; rintro e W ⟨q, rfl, ql, qh, qz, qR, qG⟩; have qF := Fr.call (by with_reducible (repeat (first | assumption | apply Fr.alloc | apply Fr.drewN | apply Fr.drew))) qG; have qL := qR.lt; have qS := qG.size; (try simp only [World.size_alloc] at qS)); have hO := OwnP.gr (by with_reducible (repeat (first | exact hO | apply OwnP.alloc))) qG hgl) | ((go_at_call 13; (with_reducible refine (c_pick 4 _ _ _ _ (by with_reducible (repeat (first | assumption | apply Rd.alloc | apply Rd.drewN | apply Rd.drew))) ?_).mono ?_); omega; rintro e W ⟨r, rfl, rl, rh, rz, rR, rG⟩; have rF := Fr.call (by with_reducible (repeat (first | assumption | apply Fr.alloc | apply Fr.drewN | apply Fr.drew))) rG; have rL := rR.lt; have rS := rG.size; (try simp only [World.size_alloc] at rS)); have hO := OwnP.gr (by with_reducible (repeat (first | exact hO | apply OwnP.alloc))) rG hgl; have hf := hO.frozen; obtain ⟨x4, hx4⟩ := hO.cell (q.toNat * 5 + 4) (by omega)) | ((go_at_call 13; (with_reducible refine (c_pick _ _ _ _ _ (by with_reducible (repeat (first | assumption | apply Rd.alloc | apply Rd.drewN | apply Rd.drew))) ?_).mono ?_); omega; rintro e W ⟨r, rfl, rl, rh, rz, rR, rG⟩; have rF := Fr.call (by with_reducible (repeat (first | assumption | apply Fr.alloc | apply Fr.drewN | apply Fr.drew))) rG; have rL := rR.lt; have rS := rG.size; (try simp only [World.size_alloc] at rS)); have hO := OwnP.gr (by with_reducible (repeat (first | exact hO | apply OwnP.alloc))) rG hgl))
        all_goals go_ret
        all_goals first
          | exact ⟨_, n, rfl, hO, by omega, rR.mono (by omega), rF⟩
          | exact ⟨_, n, rfl, hO.put _ _, by omega, (rR.set _ (by simp; omega)).mono (by omega), rF.set _ _ (by simp; omega)⟩
      · have hd2 : decide (0 < n) = false := decide_eq_false hn
        go_wp2
        go_ret
        exact ⟨_, n, rfl, hO, by omega, hR.mono (by omega), hF⟩
end Go.Proofs.YtlofelnfcdbedaaGreat.S
