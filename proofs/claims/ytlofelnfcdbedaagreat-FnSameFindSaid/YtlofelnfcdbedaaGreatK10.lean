/- Numbers and their bytes are drawn. -/
import Derived.Test.YtlofelnfcdbedaaGreatK7
namespace Go.Proofs.YtlofelnfcdbedaaGreat.S
open Go.RowKit Go.BigFrame Go.Sort
set_option linter.unusedVariables false
set_option linter.unusedSimpArgs false

theorem c_l20Number (B g M : Nat) (w : World) (h : Rd B g M w) (hM : M ≤ 1080000000000) : Calls Tryz.prog 34 #[.pointer (some ⟨g, 0, none⟩)] w (NumDrawn B g M 3 w) := by
  have hgl := h.lt
  have h0 := Fr.refl w g
  go_enter Tryz.func34, Tryz.ntmps34
  go_wp2_with (first | (go_at_call 31; (with_reducible refine (c_one_lit (0) (24) _ _ _ _ _ _ _ _ ?_ ?_ (by with_reducible (repeat (first | assumption | apply Rd.alloc | apply Rd.drewN | apply Rd.drew))) ?_).mono ?_); simp; decide; omega; rintro e W ⟨r, rfl, rl, rh, rR, rG⟩; have rF := Fr.call (by with_reducible (repeat (first | assumption | apply Fr.alloc | apply Fr.drewN | apply Fr.drew))) rG; have rL := rR.lt; have rS := rG.size; (try simp only [World.size_alloc] at rS)) | (go_at_call 51; (with_reducible refine (c_l20Imm _ _ _ _ (by with_reducible (repeat (first | assumption | apply Rd.alloc | apply Rd.drewN | apply Rd.drew))) ?_).mono ?_); omega; rintro e w1 ⟨r, rfl, rl, rh, rR, rG⟩; have rF := Fr.call (by with_reducible (repeat (first | assumption | apply Fr.alloc | apply Fr.drewN | apply Fr.drew))) rG; have rL := rR.lt; have rS := rG.size; (try simp only [World.size_alloc] at rS)) | (go_at_call 13; (with_reducible refine (c_pick 3 _ _ _ _ (by with_reducible (repeat (first | assumption | apply Rd.alloc | apply Rd.drewN | apply Rd.drew))) ?_).mono ?_); omega; rintro e W ⟨r, rfl, rl, rh, rz, rR, rG⟩; have rF := Fr.call (by with_reducible (repeat (first | assumption | apply Fr.alloc | apply Fr.drewN | apply Fr.drew))) rG; have rL := rR.lt; have rS := rG.size; (try simp only [World.size_alloc] at rS)) | (go_at_call 13; (with_reducible refine (c_pick 256 _ _ _ _ (by with_reducible (repeat (first | assumption | apply Rd.alloc | apply Rd.drewN | apply Rd.drew))) ?_).mono ?_); omega; rintro e W ⟨s, rfl, sl, sh, sz, sR, sG⟩; have sF := Fr.call (by with_reducible (repeat (first | assumption | apply Fr.alloc | apply Fr.drewN | apply Fr.drew))) sG; have sL := sR.lt; have sS := sG.size; (try simp only [World.size_alloc] at sS)))
  · go_ret
    exact ⟨_, rfl, by omega, by omega, rR.mono (by omega), rF⟩
  · go_ret
    exact ⟨_, rfl, by omega, by omega, sR.mono (by omega), sF⟩
  · go_ret
    have hs := shl_ok (a := s) (k := r) (by omega) (by omega) (by omega) (by omega)
    exact ⟨_, rfl, hs.1, hs.2, rR.mono (by omega), rF⟩

/-- Bytes come back as a text. -/
theorem c_l4Bytes (n size : Int) (w : World) (h : 0 ≤ size) (h' : size ≤ 1000) : Calls Tryz.prog 68 #[.int .i64 n, .int .i64 size] w fun e w' => ∃ s : ByteArray, e = .returned (.string s) ∧ s.size = size.toNat ∧ Below w.heap.size w w' := by
  go_enter Tryz.func68, Tryz.ntmps68
  go_wp2
  go_loopw [0, 5, 6] (fun m v i wr => ∃ (z : Int) (k : Nat), m = .int .i64 z ∧ i = .int .i64 k ∧ (k : Int) ≤ size ∧ OwnP isB wr w.heap.size 5 1 v k ∧ Below w.heap.size w wr) (fun _ _ i _ => size.toNat - (intOf i).toNat)
  case atStart => exact ⟨n, 0, rfl, rfl, by omega, OwnP.empty isB w _ _ _ (Nat.le_refl _), below_new _ _⟩
  case round =>
    obtain ⟨z, k, rfl, rfl, hlk, hO, hB⟩ := hrel
    by_cases hk : (k : Int) < size
    · have hd : decide ((k : Int) < size) = true := decide_eq_true hk
      go_wp2_with (at_builtin; (with_reducible refine app_p isB isB_one elt_byte rfl _ _ rfl _ _ _ w.heap.size u5 k rfl _ _ _ rfl ?_ ?_ ?_ hO ?_ ?_ hB.size ?_); simp; rfl; simp [isB]; omega; omega; intro v' w' hO' hG')
      exact ⟨⟨_, k + 1, rfl, by go_num, by omega, hO', below_app hB hO hG'⟩, by simp [intOf]; omega⟩
    · have hd : decide ((k : Int) < size) = false := decide_eq_false hk
      obtain ⟨A, c, rfl, hc⟩ := hO.shape
      obtain ⟨s, hs, hconv⟩ := text_of hO
      go_wp2
      go_ret
      exact ⟨s, rfl, by omega, hB⟩
end Go.Proofs.YtlofelnfcdbedaaGreat.S
