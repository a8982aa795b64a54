/- Of all bytes that are told apart the first are found: the walk of the law. -/
import Derived.Test.YtlofelnfcdbedaaGreatK32
import Derived.Laws.Cover1
namespace Go.Proofs.YtlofelnfcdbedaaGreat.S
open Go.RowKit Go.BigFrame Go.Sort
set_option linter.unusedVariables false
set_option linter.unusedSimpArgs false
set_option maxRecDepth 100000
set_option maxHeartbeats 4000000
theorem c_lawFirst (A1 A2 : Option Addr) (n1 c1 n2 c2 : Nat) (w : World) (b1 : Bytes w.heap.size A1 n1 w) (b2 : Bytes w.heap.size A2 n2 w) (h1 : n1 ≤ c1) (h2 : n2 ≤ c2) : Calls Tryz.prog 3 #[.slice A1 n1 c1, .slice A2 n2 c2] w fun e w' => e = .returned (.bool true) ∧ Below w.heap.size w w' := by
  have hB := Below.refl w.heap.size w
  by_cases hn1 : n1 ≤ 1048576
  · have hd1 : decide (1048576 < (n1 : Int)) = false := by simp; omega
    by_cases hn2 : n2 ≤ 1048576
    · have hd2 : decide (1048576 < (n2 : Int)) = false := by simp; omega
      go_enter Tryz.func3, Tryz.ntmps3
      go_upto_region 4 with (go_at_call 5; ((with_reducible refine (c_DrawSame' _ _ _ _ b1 h1 hn1).mono ?_); rintro e w1 ⟨P1, Q1, ca, cb, xs, ys, rfl, ha, hb, hna, hnb, hb1⟩; have hB := below_step (w := w) hB hb1; have b2 := b2.bl hb1))
      cases hs : sameR xs ys with
      | none =>
        have hf : fndV 1 ⟨#[]⟩ (sameR xs ys) = .tuple #[.string ⟨#[]⟩, .bool false] := by rw [hs]; rfl
        clear hs
        go_wp2_with (first | (go_at_call 6; ((with_reducible refine (c_iSameFind_v hf _ _ _ _ _ ha hb hna hnb).mono ?_); rintro e w2 ⟨rfl, hb2⟩; have hB := below_step (w := w) hB hb2; have b2 := b2.bl hb2; have ha := ha.bl hb2; have hb := hb.bl hb2)) | (go_at_call 7; ((with_reducible refine (c_sSameFind_v hf _ _ _ _ _ ha hb hna hnb).mono ?_); rintro e w2 ⟨rfl, hb2⟩; have hB := below_step (w := w) hB hb2; have b2 := b2.bl hb2; have ha := ha.bl hb2; have hb := hb.bl hb2)))
        go_ret
        exact ⟨rfl, hB⟩
      | some t =>
        obtain ⟨S, hS⟩ : ∃ S, bs t = S := ⟨_, rfl⟩
        have hf : fndV 1 ⟨#[]⟩ (sameR xs ys) = .tuple #[.string S, .bool true] := by rw [hs, ← hS]; rfl
        go_upto_region 9 with (first | (go_at_call 6; ((with_reducible refine (c_iSameFind_v hf _ _ _ _ _ ha hb hna hnb).mono ?_); rintro e w2 ⟨rfl, hb2⟩; have hB := below_step (w := w) hB hb2; have b2 := b2.bl hb2; have ha := ha.bl hb2; have hb := hb.bl hb2)) | (go_at_call 7; ((with_reducible refine (c_sSameFind_v hf _ _ _ _ _ ha hb hna hnb).mono ?_); rintro e w2 ⟨rfl, hb2⟩; have hB := below_step (w := w) hB hb2; have b2 := b2.bl hb2; have ha := ha.bl hb2; have hb := hb.bl hb2)) | (go_at_call 8; ((with_reducible refine (c_DrawRules' _ _ _ _ b2 h2 hn2).mono ?_); rintro e w3 ⟨v3, came, rfl, hcs, hb3⟩; have hB := below_step (w := w) hB hb3; have ha := ha.bl hb3; have hb := hb.bl hb3)))
        have hlaw := first_law hs came hcs
        obtain ⟨⟨v, k⟩, hra⟩ : ∃ x, ofR xs came = x := ⟨_, rfl⟩
        obtain ⟨⟨u, m⟩, hrb⟩ : ∃ x, ofR ys came = x := ⟨_, rfl⟩
        rw [hra, hrb] at hlaw
        have hleq : (v, k) ≠ (u, m) → (Op.bytesLess S.toList came.toList || S.toList == came.toList) = true := fun hne => by
          have e1 : S.data.toList = t := by rw [← hS]; simp [bs]
          rw [ByteArray.toList_eq, ByteArray.toList_eq, e1]
          rcases hlaw hne with h3 | h3
          · rw [h3]; rfl
          · rw [h3]; simp
        clear hlaw hs hS
        by_cases e1 : v = u
        · by_cases e2 : k = m
          · subst e1 e2
            clear hleq
            go_wp2_with (first | (go_at_call 9; ((with_reducible refine (c_RulesOf_v hra _ _ _ ha hna).mono ?_); rintro e w4 ⟨rfl, hb4⟩; have hB := below_step (w := w) hB hb4; have hb := hb.bl hb4)) | (go_at_call 9; ((with_reducible refine (c_RulesOf_v hrb _ _ _ hb hnb).mono ?_); rintro e w5 ⟨rfl, hb5⟩; have hB := below_step (w := w) hB hb5)))
            go_ret
            exact ⟨rfl, hB⟩
          · have e3 : (k == m) = false := by simpa using e2
            subst e1
            have hl := hleq (fun h => e2 (Prod.mk.inj h).2)
            clear hleq
            go_wp2_with (first | (go_at_call 9; ((with_reducible refine (c_RulesOf_v hra _ _ _ ha hna).mono ?_); rintro e w4 ⟨rfl, hb4⟩; have hB := below_step (w := w) hB hb4; have hb := hb.bl hb4)) | (go_at_call 9; ((with_reducible refine (c_RulesOf_v hrb _ _ _ hb hnb).mono ?_); rintro e w5 ⟨rfl, hb5⟩; have hB := below_step (w := w) hB hb5)))
            go_ret
            exact ⟨rfl, hB⟩
        · have e3 : (v == u) = false := by simpa using e1
          have hl := hleq (fun h => e1 (Prod.mk.inj h).1)
          clear hleq
          go_wp2_with (first | (go_at_call 9; ((with_reducible refine (c_RulesOf_v hra _ _ _ ha hna).mono ?_); rintro e w4 ⟨rfl, hb4⟩; have hB := below_step (w := w) hB hb4; have hb := hb.bl hb4)) | (go_at_call 9; ((with_reducible refine (c_RulesOf_v hrb _ _ _ hb hnb).mono ?_); rintro e w5 ⟨rfl, hb5⟩; have hB := below_step (w := w) hB hb5)))
          go_ret
          exact ⟨rfl, hB⟩
    · have hd2 : decide (1048576 < (n2 : Int)) = true := by simp; omega
      go_enter Tryz.func3, Tryz.ntmps3
      go_wp2_with fail
      go_ret
      exact ⟨rfl, hB⟩
  · have hd1 : decide (1048576 < (n1 : Int)) = true := by simp; omega
    go_enter Tryz.func3, Tryz.ntmps3
    go_wp2_with fail
    go_ret
    exact ⟨rfl, hB⟩
end Go.Proofs.YtlofelnfcdbedaaGreat.S
