/- Bytes that are found are told apart: the walk of the law. -/
import Derived.Test.YtlofelnfcdbedaaGreatK32
namespace Go.Proofs.YtlofelnfcdbedaaGreat.S
open Go.RowKit Go.BigFrame Go.Sort
set_option linter.unusedVariables false
set_option linter.unusedSimpArgs false
set_option maxRecDepth 100000
set_option maxHeartbeats 4000000
theorem c_lawFind (A1 A2 : Option Addr) (n1 c1 n2 c2 : Nat) (w : World) (b1 : Bytes w.heap.size A1 n1 w) (b2 : Bytes w.heap.size A2 n2 w) (h1 : n1 ≤ c1) (h2 : n2 ≤ c2) : Calls Tryz.prog 4 #[.slice A1 n1 c1, .slice A2 n2 c2] w fun e w' => e = .returned (.bool true) ∧ Below w.heap.size w w' := by
  have hB := Below.refl w.heap.size w
  by_cases hn1 : n1 ≤ 1048576
  · have hd1 : decide (1048576 < (n1 : Int)) = false := by simp; omega
    by_cases hn2 : n2 ≤ 1048576
    · have hd2 : decide (1048576 < (n2 : Int)) = false := by simp; omega
      go_enter Tryz.func4, Tryz.ntmps4
      go_upto_region 4 with (go_at_call 5; ((with_reducible refine (c_DrawSame' _ _ _ _ b1 h1 hn1).mono ?_); rintro e w1 ⟨P1, Q1, ca, cb, xs, ys, rfl, ha, hb, hna, hnb, hb1⟩; have hB := below_step (w := w) hB hb1; have b2 := b2.bl hb1))
      obtain ⟨z, hz⟩ : ∃ z, piecesR xs ys = z := ⟨_, rfl⟩
      have hpl := pieces_look xs ys
      rw [hz] at hpl
      rcases hpl with ⟨hzz, hl⟩ | ⟨hz0, hz4, hl⟩
      · have hf : fndV 1 ⟨#[]⟩ (sameR xs ys) = .tuple #[.string ⟨#[]⟩, .bool false] := by unfold sameR; rw [hl]; rfl
        clear hl
        rcases hzz with hzz | hzz
        · have hd3 : decide (z < 0) = true := by simp; omega
          go_wp2_with (first | (go_at_call 6; ((with_reducible refine (c_iSameFind_v hf _ _ _ _ _ ha hb hna hnb).mono ?_); rintro e w2 ⟨rfl, hb2⟩; have hB := below_step (w := w) hB hb2; have b2 := b2.bl hb2; have ha := ha.bl hb2; have hb := hb.bl hb2)) | (go_at_call 7; ((with_reducible refine (c_sSameFind_v hf _ _ _ _ _ ha hb hna hnb).mono ?_); rintro e w2 ⟨rfl, hb2⟩; have hB := below_step (w := w) hB hb2; have b2 := b2.bl hb2; have ha := ha.bl hb2; have hb := hb.bl hb2)) | (go_at_call 10; ((with_reducible refine (c_SamePieces_v hz _ _ _ _ _ ha hb hna hnb).mono ?_); rintro e w6 ⟨rfl, hb6⟩; have hB := below_step (w := w) hB hb6; have b2 := b2.bl hb6; have ha := ha.bl hb6; have hb := hb.bl hb6)))
          go_ret
          exact ⟨rfl, hB⟩
        · have hd3 : decide (z < 0) = false := by simp; omega
          have hd4 : decide (400 < z) = true := by simp; omega
          go_wp2_with (first | (go_at_call 6; ((with_reducible refine (c_iSameFind_v hf _ _ _ _ _ ha hb hna hnb).mono ?_); rintro e w2 ⟨rfl, hb2⟩; have hB := below_step (w := w) hB hb2; have b2 := b2.bl hb2; have ha := ha.bl hb2; have hb := hb.bl hb2)) | (go_at_call 7; ((with_reducible refine (c_sSameFind_v hf _ _ _ _ _ ha hb hna hnb).mono ?_); rintro e w2 ⟨rfl, hb2⟩; have hB := below_step (w := w) hB hb2; have b2 := b2.bl hb2; have ha := ha.bl hb2; have hb := hb.bl hb2)) | (go_at_call 10; ((with_reducible refine (c_SamePieces_v hz _ _ _ _ _ ha hb hna hnb).mono ?_); rintro e w6 ⟨rfl, hb6⟩; have hB := below_step (w := w) hB hb6; have b2 := b2.bl hb6; have ha := ha.bl hb6; have hb := hb.bl hb6)))
          go_ret
          exact ⟨rfl, hB⟩
      · have hd3 : decide (z < 0) = false := by simp; omega
        have hd4 : decide (400 < z) = false := by simp; omega
        cases hs : sameR xs ys with
        | none =>
          have hf : fndV 1 ⟨#[]⟩ (sameR xs ys) = .tuple #[.string ⟨#[]⟩, .bool false] := by rw [hs]; rfl
          go_upto_region 14 with (first | (go_at_call 6; ((with_reducible refine (c_iSameFind_v hf _ _ _ _ _ ha hb hna hnb).mono ?_); rintro e w2 ⟨rfl, hb2⟩; have hB := below_step (w := w) hB hb2; have b2 := b2.bl hb2; have ha := ha.bl hb2; have hb := hb.bl hb2)) | (go_at_call 7; ((with_reducible refine (c_sSameFind_v hf _ _ _ _ _ ha hb hna hnb).mono ?_); rintro e w2 ⟨rfl, hb2⟩; have hB := below_step (w := w) hB hb2; have b2 := b2.bl hb2; have ha := ha.bl hb2; have hb := hb.bl hb2)) | (go_at_call 10; ((with_reducible refine (c_SamePieces_v hz _ _ _ _ _ ha hb hna hnb).mono ?_); rintro e w6 ⟨rfl, hb6⟩; have hB := below_step (w := w) hB hb6; have b2 := b2.bl hb6; have ha := ha.bl hb6; have hb := hb.bl hb6)) | (go_at_call 8; ((with_reducible refine (c_DrawRules' _ _ _ _ b2 h2 hn2).mono ?_); rintro e w3 ⟨v3, came, rfl, hcs, hb3⟩; have hB := below_step (w := w) hB hb3; have ha := ha.bl hb3; have hb := hb.bl hb3)))
          have hlaw := none_law hs hl came hcs
          obtain ⟨⟨v, k⟩, hra⟩ : ∃ x, ofR xs came = x := ⟨_, rfl⟩
          have hrb : ofR ys came = (v, k) := by rw [← hlaw, hra]
          clear hlaw hs hl
          go_wp2_with (first | (go_at_call 9; ((with_reducible refine (c_RulesOf_v hra _ _ _ ha hna).mono ?_); rintro e w4 ⟨rfl, hb4⟩; have hB := below_step (w := w) hB hb4; have hb := hb.bl hb4)) | (go_at_call 9; ((with_reducible refine (c_RulesOf_v hrb _ _ _ hb hnb).mono ?_); rintro e w5 ⟨rfl, hb5⟩; have hB := below_step (w := w) hB hb5)))
          go_ret
          exact ⟨rfl, hB⟩
        | some t =>
          obtain ⟨S, hS⟩ : ∃ S, bs t = S := ⟨_, rfl⟩
          have hf : fndV 1 ⟨#[]⟩ (sameR xs ys) = .tuple #[.string S, .bool true] := by rw [hs, ← hS]; rfl
          obtain ⟨_, ht, hne⟩ := found_some hs
          have e1 : S.data.toList = t := by rw [← hS]; simp [bs]
          have hsz : S.size = 12 := by rw [← hS, bs_size, ht]
          obtain ⟨e2, e3⟩ := ofR_look hl S hsz
          rw [e1] at e2 e3
          rw [← e2, ← e3] at hne
          obtain ⟨⟨v, k⟩, hra⟩ : ∃ x, ofR xs S = x := ⟨_, rfl⟩
          obtain ⟨⟨u, m⟩, hrb⟩ : ∃ x, ofR ys S = x := ⟨_, rfl⟩
          rw [hra, hrb] at hne
          clear e1 e2 e3 hS ht hs hl hsz
          by_cases e1 : v = u
          · have e2 : k ≠ m := fun h => hne (by rw [e1, h])
            have e3 : (k == m) = false := by simpa using e2
            have e4 : (k != m) = true := by simp [bne, e3]
            subst e1
            clear hne e2
            go_wp2_with (first | (go_at_call 6; ((with_reducible refine (c_iSameFind_v hf _ _ _ _ _ ha hb hna hnb).mono ?_); rintro e w2 ⟨rfl, hb2⟩; have hB := below_step (w := w) hB hb2; have b2 := b2.bl hb2; have ha := ha.bl hb2; have hb := hb.bl hb2)) | (go_at_call 7; ((with_reducible refine (c_sSameFind_v hf _ _ _ _ _ ha hb hna hnb).mono ?_); rintro e w2 ⟨rfl, hb2⟩; have hB := below_step (w := w) hB hb2; have b2 := b2.bl hb2; have ha := ha.bl hb2; have hb := hb.bl hb2)) | (go_at_call 10; ((with_reducible refine (c_SamePieces_v hz _ _ _ _ _ ha hb hna hnb).mono ?_); rintro e w6 ⟨rfl, hb6⟩; have hB := below_step (w := w) hB hb6; have b2 := b2.bl hb6; have ha := ha.bl hb6; have hb := hb.bl hb6)) | (go_at_call 8; ((with_reducible refine (c_DrawRules' _ _ _ _ b2 h2 hn2).mono ?_); rintro e w3 ⟨v3, came, rfl, hcs, hb3⟩; have hB := below_step (w := w) hB hb3; have ha := ha.bl hb3; have hb := hb.bl hb3)) | (go_at_call 9; ((with_reducible refine (c_RulesOf_v hra _ _ _ ha hna).mono ?_); rintro e w4 ⟨rfl, hb4⟩; have hB := below_step (w := w) hB hb4; have hb := hb.bl hb4)) | (go_at_call 9; ((with_reducible refine (c_RulesOf_v hrb _ _ _ hb hnb).mono ?_); rintro e w5 ⟨rfl, hb5⟩; have hB := below_step (w := w) hB hb5)))
            go_ret
            exact ⟨rfl, hB⟩
          · have e3 : (v == u) = false := by simpa using e1
            have e4 : (v != u) = true := by simp [bne, e3]
            clear hne e1
            go_wp2_with (first | (go_at_call 6; ((with_reducible refine (c_iSameFind_v hf _ _ _ _ _ ha hb hna hnb).mono ?_); rintro e w2 ⟨rfl, hb2⟩; have hB := below_step (w := w) hB hb2; have b2 := b2.bl hb2; have ha := ha.bl hb2; have hb := hb.bl hb2)) | (go_at_call 7; ((with_reducible refine (c_sSameFind_v hf _ _ _ _ _ ha hb hna hnb).mono ?_); rintro e w2 ⟨rfl, hb2⟩; have hB := below_step (w := w) hB hb2; have b2 := b2.bl hb2; have ha := ha.bl hb2; have hb := hb.bl hb2)) | (go_at_call 10; ((with_reducible refine (c_SamePieces_v hz _ _ _ _ _ ha hb hna hnb).mono ?_); rintro e w6 ⟨rfl, hb6⟩; have hB := below_step (w := w) hB hb6; have b2 := b2.bl hb6; have ha := ha.bl hb6; have hb := hb.bl hb6)) | (go_at_call 8; ((with_reducible refine (c_DrawRules' _ _ _ _ b2 h2 hn2).mono ?_); rintro e w3 ⟨v3, came, rfl, hcs, hb3⟩; have hB := below_step (w := w) hB hb3; have ha := ha.bl hb3; have hb := hb.bl hb3)) | (go_at_call 9; ((with_reducible refine (c_RulesOf_v hra _ _ _ ha hna).mono ?_); rintro e w4 ⟨rfl, hb4⟩; have hB := below_step (w := w) hB hb4; have hb := hb.bl hb4)) | (go_at_call 9; ((with_reducible refine (c_RulesOf_v hrb _ _ _ hb hnb).mono ?_); rintro e w5 ⟨rfl, hb5⟩; have hB := below_step (w := w) hB hb5)))
            go_ret
            exact ⟨rfl, hB⟩
    · have hd2 : decide (1048576 < (n2 : Int)) = true := by simp; omega
      go_enter Tryz.func4, Tryz.ntmps4
      go_wp2_with fail
      go_ret
      exact ⟨rfl, hB⟩
  · have hd1 : decide (1048576 < (n1 : Int)) = true := by simp; omega
    go_enter Tryz.func4, Tryz.ntmps4
    go_wp2_with fail
    go_ret
    exact ⟨rfl, hB⟩
end Go.Proofs.YtlofelnfcdbedaaGreat.S
