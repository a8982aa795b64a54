/- A program is drawn: of numbers, or of a list; sometimes bent. -/
import Derived.Test.YtlofelnfcdbedaaGreatK8
import Derived.Deep.AppendLies
import Derived.Deep.RegionLaw
namespace Go.Proofs.YtlofelnfcdbedaaGreat.S
open Go.RowKit Go.BigFrame Go.Sort
set_option linter.unusedVariables false
set_option linter.unusedSimpArgs false

set_option maxRecDepth 100000 in
set_option maxHeartbeats 4000000 in
theorem c_l20Prog (B g M : Nat) (w : World) (h : Rd B g M w) (hM : M ≤ 1060000000000) : Calls Tryz.prog 32 #[.pointer (some ⟨g, 0, none⟩)] w (Progs B g M 220 1 23 w) := by
  have hgl := h.lt
  have h0 := Fr.refl w g
  go_enter Tryz.func32, Tryz.ntmps32
  go_upto_if 10 with (first | (go_at_call 48; (with_reducible refine (c_l20Make _ _ _ _ (by with_reducible (repeat (first | assumption | apply Rd.alloc | apply Rd.drewN | apply Rd.drew))) ?_).mono ?_); omega; rintro e w0 ⟨v0, n0, rfl, hO, hn1, hn2, rR, rG⟩; have rF := Fr.call (by with_reducible (repeat (first | assumption | apply Fr.alloc | apply Fr.drewN | apply Fr.drew))) rG; have rL := rR.lt; have rS := rG.size; (try simp only [World.size_alloc] at rS)) | ((go_at_call 13; (with_reducible refine (c_pick 2 _ _ _ _ (by with_reducible (repeat (first | assumption | apply Rd.alloc | apply Rd.drewN | apply Rd.drew))) ?_).mono ?_); omega; rintro e W ⟨q, rfl, ql, qh, qz, qR, qG⟩; have qF := Fr.call (by with_reducible (repeat (first | assumption | apply Fr.alloc | apply Fr.drewN | apply Fr.drew))) qG; have qL := qR.lt; have qS := qG.size; (try simp only [World.size_alloc] at qS)); have hO := OwnP.gr (by with_reducible (repeat (first | exact hO | apply OwnP.alloc))) qG hgl))
  go_cut [3] (fun v W' => ∃ n : Nat, OwnI W' w.heap.size 85 6 v n ∧ 1 ≤ n ∧ n ≤ 22 ∧ Rd B g (M + 205) W' ∧ Fr w g W')
  case first =>
    go_wp2_with (first | (go_at_call 49; (with_reducible refine (c_l20Lines _).mono ?_); rintro e w1 ⟨b1, c1, rfl, hb1g, hrow, hb1⟩; have w1R := qR.bl hb1; have w1F := qF.below hb1) | ((go_at_call 13; (with_reducible refine (c_pick 15 _ _ _ _ (by with_reducible (repeat (first | assumption | apply Rd.alloc | apply Rd.drewN | apply Rd.drew))) ?_).mono ?_); omega; rintro e W2 ⟨k, rfl, kl, kh, kz, kR, kG⟩; have kF := Fr.call (by with_reducible (repeat (first | assumption | apply Fr.alloc | apply Fr.drewN | apply Fr.drew))) kG; have kL := kR.lt; have kS := kG.size; (try simp only [World.size_alloc] at kS)); obtain ⟨A3, n3, c3, hz, ha3, hn3a, hn3b, hAt⟩ := hrow k.toNat (by omega); have hz := kG.cell hz (by simp; omega); have hAt := hAt.gr kG (by omega)) | (go_at_call 50; (with_reducible refine (c_l20Read _ _ _ 20 _ hAt ?_ ?_).mono ?_); omega; omega; rintro e w3 ⟨v3, rfl, hO3, hb3⟩))
    · go_meet
      exact ⟨n3, hO3.low (by have := hb1.size; have := qF.size; omega), by omega, by omega, (kR.bl hb3).mono (by omega), kF.below hb3⟩
    · go_meet
      exact ⟨n0, hO, by omega, by omega, qR.mono (by omega), qF⟩
  case rest =>
    obtain ⟨n, hO, hn1, hn2, hR, hF⟩ := hcut
    obtain ⟨A, c, rfl, hc⟩ := hO.shape
    obtain ⟨b, cap, hv, hb1, hb2⟩ := hO.form hn1
    simp only [Value.slice.injEq] at hv
    obtain ⟨rfl, _, rfl⟩ := hv
    have hn0 : 0 < n := by omega
    have hFs := hF.size
    go_upto_block 0 with (first | ((go_at_call 13; (with_reducible refine (c_pick (n : Int) _ _ _ _ (by with_reducible (repeat (first | assumption | apply Rd.alloc | apply Rd.drewN | apply Rd.drew))) ?_).mono ?_); omega; rintro e W ⟨i, rfl, il, ih, iz, iR, iG⟩; have iF := Fr.call (by with_reducible (repeat (first | assumption | apply Fr.alloc | apply Fr.drewN | apply Fr.drew))) iG; have iL := iR.lt; have iS := iG.size; (try simp only [World.size_alloc] at iS)); have hO := OwnP.gr (by with_reducible (repeat (first | exact hO | apply OwnP.alloc))) iG hgl) | ((go_at_call 13; (with_reducible refine (c_pick 6 _ _ _ _ (by with_reducible (repeat (first | assumption | apply Rd.alloc | apply Rd.drewN | apply Rd.drew))) ?_).mono ?_); omega; rintro e W ⟨k, rfl, kl, kh, kz, kR, kG⟩; have kF := Fr.call (by with_reducible (repeat (first | assumption | apply Fr.alloc | apply Fr.drewN | apply Fr.drew))) kG; have kL := kR.lt; have kS := kG.size; (try simp only [World.size_alloc] at kS)); have hO := OwnP.gr (by with_reducible (repeat (first | exact hO | apply OwnP.alloc))) kG hgl) | ((go_at_call 13; (with_reducible refine (c_pick 4 _ _ _ _ (by with_reducible (repeat (first | assumption | apply Rd.alloc | apply Rd.drewN | apply Rd.drew))) ?_).mono ?_); omega; rintro e W ⟨q, rfl, ql, qh, qz, qR, qG⟩; have qF := Fr.call (by with_reducible (repeat (first | assumption | apply Fr.alloc | apply Fr.drewN | apply Fr.drew))) qG; have qL := qR.lt; have qS := qG.size; (try simp only [World.size_alloc] at qS)); have hO := OwnP.gr (by with_reducible (repeat (first | exact hO | apply OwnP.alloc))) qG hgl))
    rotate_left
    · go_ret
      exact ⟨_, n, rfl, hO, by omega, by omega, qR.mono (by omega), qF⟩
    have hf := hO.frozen
    have hi0 : i < (n : Int) := by omega
    obtain ⟨x0, hx0⟩ := hO.cell (i.toNat * 6) (by omega)
    obtain ⟨x1, hx1⟩ := hO.cell (i.toNat * 6 + 1) (by omega)
    obtain ⟨x2, hx2⟩ := hO.cell (i.toNat * 6 + 2) (by omega)
    obtain ⟨x3, hx3⟩ := hO.cell (i.toNat * 6 + 3) (by omega)
    obtain ⟨x4, hx4⟩ := hO.cell (i.toNat * 6 + 4) (by omega)
    obtain ⟨x5, hx5⟩ := hO.cell (i.toNat * 6 + 5) (by omega)
    go_upto_region 8 with (first | ((go_at_call 31; (with_reducible refine (c_one_lit (-2) (200) _ _ _ _ _ _ _ _ ?_ ?_ (by with_reducible (repeat (first | assumption | apply Rd.alloc | apply Rd.drewN | apply Rd.drew))) ?_).mono ?_); simp; decide; omega; rintro e W ⟨r, rfl, rl, rh, rR, rG⟩; have rF := Fr.call (by with_reducible (repeat (first | assumption | apply Fr.alloc | apply Fr.drewN | apply Fr.drew))) rG; have rL := rR.lt; have rS := rG.size; (try simp only [World.size_alloc] at rS)); have hO := OwnP.gr (by with_reducible (repeat (first | exact hO | apply OwnP.alloc))) rG hgl; have hf := hO.frozen; obtain ⟨y3, hy3⟩ := hO.cell (i.toNat * 6 + 3) (by omega)) | (go_at_call 51; (with_reducible refine (c_l20Imm _ _ _ _ (by with_reducible (repeat (first | assumption | apply Rd.alloc | apply Rd.drewN | apply Rd.drew))) ?_).mono ?_); omega; rintro e w1 ⟨r, rfl, rl, rh, rR, rG⟩; have rF := Fr.call (by with_reducible (repeat (first | assumption | apply Fr.alloc | apply Fr.drewN | apply Fr.drew))) rG; have rL := rR.lt; have rS := rG.size; (try simp only [World.size_alloc] at rS); have hO := OwnP.gr (by with_reducible (repeat (first | exact hO | apply OwnP.alloc))) rG hgl; have hf := hO.frozen; obtain ⟨y4, hy4⟩ := hO.cell (i.toNat * 6 + 4) (by omega)) | ((go_at_call 13; (with_reducible refine (c_pick _ _ _ _ _ (by with_reducible (repeat (first | assumption | apply Rd.alloc | apply Rd.drewN | apply Rd.drew))) ?_).mono ?_); omega; rintro e W ⟨r, rfl, rl, rh, rz, rR, rG⟩; have rF := Fr.call (by with_reducible (repeat (first | assumption | apply Fr.alloc | apply Fr.drewN | apply Fr.drew))) rG; have rL := rR.lt; have rS := rG.size; (try simp only [World.size_alloc] at rS)); have hO := OwnP.gr (by with_reducible (repeat (first | exact hO | apply OwnP.alloc))) rG hgl; have hf := hO.frozen; obtain ⟨y0, hy0⟩ := hO.cell (i.toNat * 6) (by omega); obtain ⟨y1, hy1⟩ := hO.cell (i.toNat * 6 + 1) (by omega); obtain ⟨y2, hy2⟩ := hO.cell (i.toNat * 6 + 2) (by omega)))
    rotate_right
    · clear hf hx0 hx1 hx2 hx3 hx4 hx5
      have hic : i ≤ (c : Int) := by omega
      have hBg := kR.ge
      have hsz : (W.alloc (.cells #[] 85)).drew.heap.size = W.heap.size + 1 := by
        show (W.alloc (.cells #[] 85)).heap.size = _
        simp only [World.size_alloc]
      have hWs := kF.size
      have hbl : b < W.heap.size := by omega
      have hin : i ≤ (n : Int) := by omega
      have hnc : (n : Int) ≤ (c : Int) := by omega
      have hci : ¬ c = i.toNat := by omega
      have hOe : OwnI (W.alloc (.cells #[] 85)).drew w.heap.size 85 6 (.slice (some ⟨b, 0, none⟩) n c) n := OwnP.drewN (hO.alloc _) 1
      have hS : ∀ j, j < i.toNat * 6 → ∃ u, isI u ∧ (W.alloc (.cells #[] 85)).drew.cell? ((⟨b, 0, none⟩ : Addr).add j) = some u := fun j hj => by
        obtain ⟨x, hx⟩ := hOe.cell j (by omega)
        exact ⟨_, ⟨x, rfl⟩, by rw [add_plain]; exact hx⟩
      have hE0 : OwnI (W.alloc (.cells #[] 85)).drew W.heap.size 85 6 (.slice (some ⟨W.heap.size, 0, none⟩) 0 0) 0 := OwnP.drewN (OwnP.empty isI W W.heap.size 85 6 (Nat.le_refl _)) 1
      go_region_law (first | (refine step_app_src isI isI_one elt_Ins rfl _ _ rfl _ W.heap.size (.slice (some ⟨W.heap.size, 0, none⟩) 0 0) 0 rfl ⟨b, 0, none⟩ i.toNat c rfl hS hE0 (by omega) (by omega) (by simp) ?_; intro v1 w1 hP1 hG1; have hz1 := World.grownBy.size hG1; rw [hsz] at hz1; have hO1 := hOe.far hG1 (.inr (by simp [Value.ownBlock]; omega)); have w1R := Rd.grown (Rd.drew (kR.alloc (.cells #[] 85))) hG1 (by simp [Value.ownBlock]; omega); have w1F := Fr.own (Fr.drew (kF.alloc (.cells #[] 85))) hG1 (by simp [Value.ownBlock]; omega)) | (go_simp; go_at_call 52; (with_reducible refine (c_l20Alu _ _ _ _ (by assumption) ?_).mono ?_); omega; rintro e w2 ⟨x, rfl, rR, rG⟩; obtain ⟨x0, x1, x2, x3, x4, x5⟩ := x; have hP2 := hP1.gr rG (by omega); have hO2 := hO1.gr rG hgl; have w2F := w1F.call rG; have hz2 := Fr.size rG) | (refine step_app_src isI isI_one elt_Ins rfl _ _ rfl _ W.heap.size v1 (0 + i.toNat) rfl ⟨w2.heap.size, 0, none⟩ 1 1 rfl (src_new w2 _ x0 x1 x2 x3 x4 x5) (hP2.alloc _) (by omega) (by omega) (by simp; omega) ?_; intro v3 w3 hP3 hG3; have hO3 := (hO2.alloc _).far hG3 (.inr (fun e => by have := hP2.lt b e.symm; omega)); have w3R := (rR.alloc _).grown hG3 (fun k hk => by have := hP2.lt k hk; omega); have w3F := (w2F.alloc _).own hG3 (fun k hk => by have := hP2.lt k hk; omega); have hz3 := World.grownBy.size hG3; simp only [World.size_alloc] at hz3; have hS3 := src_rest hO3 (i := i.toNat) (by omega)) | (refine step_app_src isI isI_one elt_Ins rfl _ _ rfl _ W.heap.size v3 (0 + i.toNat + 1) rfl ⟨b, i.toNat * 6, none⟩ (n - i.toNat) (c - i.toNat) rfl hS3 hP3 (by omega) (by omega) (by omega) ?_; intro v5 w5 hP5 hG5; have w5R := w3R.grown hG5 (fun k hk => by have := hP3.lt k hk; omega); have w5F := w3F.own hG5 (fun k hk => by have := hP3.lt k hk; omega)))
      go_wp2_with fail
      go_ret
      exact ⟨_, 0 + i.toNat + 1 + (n - i.toNat), rfl, hP5.low (by omega), by omega, by omega, w5R.mono (by omega), w5F⟩
    all_goals
      go_ret
      exact ⟨_, n, rfl, hO.put _ _, by omega, by omega, (rR.set _ (by simp; omega)).mono (by omega), rF.set _ _ (by simp; omega)⟩
end Go.Proofs.YtlofelnfcdbedaaGreat.S
