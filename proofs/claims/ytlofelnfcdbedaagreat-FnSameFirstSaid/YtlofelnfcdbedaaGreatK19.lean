/- Rules: whether they are ok: of one. Rules: whether a list of them is ok. -/
import Derived.Test.YtlofelnfcdbedaaGreatK1
import Derived.Test.YtlofelnfcdbedaaGreatK2
namespace Go.Proofs.YtlofelnfcdbedaaGreat.S
open Go.RowKit Go.BigFrame Go.Sort
set_option linter.unusedVariables false
set_option linter.unusedSimpArgs false

theorem c_l1In_v {n a b : Int} {x : Bool} (h : inB n a b = x) (w : World) : Calls Tryz.prog 46 #[.int .i64 n, .int .i64 a, .int .i64 b] w fun e w' => e = .returned (.bool x) ∧ w' = w :=
  (c_l1In n a b w).mono fun _ _ e => ⟨h ▸ e.1, e.2.symm⟩
theorem c_l9RuleOk (a o n v k : Int) (w : World) : Calls Tryz.prog 28 #[.agg #[.int .i64 a, .int .i64 o, .int .i64 n, .int .i64 v, .int .i64 k]] w fun e w' => e = .returned (.bool (Ru.ok ⟨a, o, n, v, k⟩)) ∧ Below w.heap.size w w' := by
  rcases Bool.eq_false_or_eq_true (inB a 0 11) with h1 | h1
  · rcases Bool.eq_false_or_eq_true (inB o 12 15) with h2 | h2
    · rcases Bool.eq_false_or_eq_true (inB n 0 255) with h3 | h3
      · rcases Bool.eq_false_or_eq_true (inB v 0 2) with h4 | h4
        · rcases Bool.eq_false_or_eq_true (inB k 0 4294967295) with h5 | h5
          · rcases Bool.eq_false_or_eq_true (v == 2) with h6 | h6
            · (have hr : Ru.ok ⟨a, o, n, v, k⟩ = true := (by simp [Ru.ok, h1, h2, h3, h4, h5, h6])); rw [hr]; clear hr; have hX := Blk.new w 40 #[.int .i64 a, .int .i64 o, .int .i64 n, .int .i64 v, .int .i64 k]; obtain ⟨x0, x1, x2, x3, x4⟩ := hX.cells5; clear hX; go_enter Tryz.func28, Tryz.ntmps28; go_upto_region 1 with fail; go_big_quiet (first | (go_at_call 46; exact Calls.quiet_of_same (c_l1In_v (by assumption) _)) | (go_at_call 41; exact Calls.quiet_of_same ((c_l2Top _).mono fun _ _ h => ⟨h.1, h.2.symm⟩))); go_wp2_with fail; go_ret; exact ⟨rfl, below_drewN (below_new w _) _⟩
            · rcases Bool.eq_false_or_eq_true (k == 0) with h7 | h7
              · (have hr : Ru.ok ⟨a, o, n, v, k⟩ = true := (by simp [Ru.ok, h1, h2, h3, h4, h5, h6, h7])); rw [hr]; clear hr; have hX := Blk.new w 40 #[.int .i64 a, .int .i64 o, .int .i64 n, .int .i64 v, .int .i64 k]; obtain ⟨x0, x1, x2, x3, x4⟩ := hX.cells5; clear hX; go_enter Tryz.func28, Tryz.ntmps28; go_upto_region 1 with fail; go_big_quiet (first | (go_at_call 46; exact Calls.quiet_of_same (c_l1In_v (by assumption) _)) | (go_at_call 41; exact Calls.quiet_of_same ((c_l2Top _).mono fun _ _ h => ⟨h.1, h.2.symm⟩))); go_wp2_with fail; go_ret; exact ⟨rfl, below_drewN (below_new w _) _⟩
              · (have hr : Ru.ok ⟨a, o, n, v, k⟩ = false := (by simp [Ru.ok, h1, h2, h3, h4, h5, h6, h7])); rw [hr]; clear hr; have hX := Blk.new w 40 #[.int .i64 a, .int .i64 o, .int .i64 n, .int .i64 v, .int .i64 k]; obtain ⟨x0, x1, x2, x3, x4⟩ := hX.cells5; clear hX; go_enter Tryz.func28, Tryz.ntmps28; go_upto_region 1 with fail; go_big_quiet (first | (go_at_call 46; exact Calls.quiet_of_same (c_l1In_v (by assumption) _)) | (go_at_call 41; exact Calls.quiet_of_same ((c_l2Top _).mono fun _ _ h => ⟨h.1, h.2.symm⟩))); go_wp2_with fail; go_ret; exact ⟨rfl, below_drewN (below_new w _) _⟩
          · (have hr : Ru.ok ⟨a, o, n, v, k⟩ = false := (by simp [Ru.ok, h1, h2, h3, h4, h5])); rw [hr]; clear hr; have hX := Blk.new w 40 #[.int .i64 a, .int .i64 o, .int .i64 n, .int .i64 v, .int .i64 k]; obtain ⟨x0, x1, x2, x3, x4⟩ := hX.cells5; clear hX; go_enter Tryz.func28, Tryz.ntmps28; go_upto_region 1 with fail; go_big_quiet (first | (go_at_call 46; exact Calls.quiet_of_same (c_l1In_v (by assumption) _)) | (go_at_call 41; exact Calls.quiet_of_same ((c_l2Top _).mono fun _ _ h => ⟨h.1, h.2.symm⟩))); go_wp2_with fail; go_ret; exact ⟨rfl, below_drewN (below_new w _) _⟩
        · (have hr : Ru.ok ⟨a, o, n, v, k⟩ = false := (by simp [Ru.ok, h1, h2, h3, h4])); rw [hr]; clear hr; have hX := Blk.new w 40 #[.int .i64 a, .int .i64 o, .int .i64 n, .int .i64 v, .int .i64 k]; obtain ⟨x0, x1, x2, x3, x4⟩ := hX.cells5; clear hX; go_enter Tryz.func28, Tryz.ntmps28; go_upto_region 1 with fail; go_big_quiet (first | (go_at_call 46; exact Calls.quiet_of_same (c_l1In_v (by assumption) _)) | (go_at_call 41; exact Calls.quiet_of_same ((c_l2Top _).mono fun _ _ h => ⟨h.1, h.2.symm⟩))); go_wp2_with fail; go_ret; exact ⟨rfl, below_drewN (below_new w _) _⟩
      · (have hr : Ru.ok ⟨a, o, n, v, k⟩ = false := (by simp [Ru.ok, h1, h2, h3])); rw [hr]; clear hr; have hX := Blk.new w 40 #[.int .i64 a, .int .i64 o, .int .i64 n, .int .i64 v, .int .i64 k]; obtain ⟨x0, x1, x2, x3, x4⟩ := hX.cells5; clear hX; go_enter Tryz.func28, Tryz.ntmps28; go_upto_region 1 with fail; go_big_quiet (first | (go_at_call 46; exact Calls.quiet_of_same (c_l1In_v (by assumption) _)) | (go_at_call 41; exact Calls.quiet_of_same ((c_l2Top _).mono fun _ _ h => ⟨h.1, h.2.symm⟩))); go_wp2_with fail; go_ret; exact ⟨rfl, below_drewN (below_new w _) _⟩
    · (have hr : Ru.ok ⟨a, o, n, v, k⟩ = false := (by simp [Ru.ok, h1, h2])); rw [hr]; clear hr; have hX := Blk.new w 40 #[.int .i64 a, .int .i64 o, .int .i64 n, .int .i64 v, .int .i64 k]; obtain ⟨x0, x1, x2, x3, x4⟩ := hX.cells5; clear hX; go_enter Tryz.func28, Tryz.ntmps28; go_upto_region 1 with fail; go_big_quiet (first | (go_at_call 46; exact Calls.quiet_of_same (c_l1In_v (by assumption) _)) | (go_at_call 41; exact Calls.quiet_of_same ((c_l2Top _).mono fun _ _ h => ⟨h.1, h.2.symm⟩))); go_wp2_with fail; go_ret; exact ⟨rfl, below_drewN (below_new w _) _⟩
  · (have hr : Ru.ok ⟨a, o, n, v, k⟩ = false := (by simp [Ru.ok, h1])); rw [hr]; clear hr; have hX := Blk.new w 40 #[.int .i64 a, .int .i64 o, .int .i64 n, .int .i64 v, .int .i64 k]; obtain ⟨x0, x1, x2, x3, x4⟩ := hX.cells5; clear hX; go_enter Tryz.func28, Tryz.ntmps28; go_upto_region 1 with fail; go_big_quiet (first | (go_at_call 46; exact Calls.quiet_of_same (c_l1In_v (by assumption) _)) | (go_at_call 41; exact Calls.quiet_of_same ((c_l2Top _).mono fun _ _ h => ⟨h.1, h.2.symm⟩))); go_wp2_with fail; go_ret; exact ⟨rfl, below_drewN (below_new w _) _⟩
end Go.Proofs.YtlofelnfcdbedaaGreat.S
namespace Go.Proofs.YtlofelnfcdbedaaGreat.S
open Go.RowKit Go.BigFrame Go.Sort
set_option linter.unusedVariables false
set_option linter.unusedSimpArgs false

/-- These rules lie there. -/
def RuAt (w : World) (A : Option Addr) (rs : List Ru) : Prop := ∀ (i : Nat) (x : Ru), rs[i]? = some x → ∃ b : Nat, A = some ⟨b, 0, none⟩ ∧ ∀ j u, x.cs[j]? = some u → w.cell? ⟨b, i * 5 + j, none⟩ = some u
theorem RuAt.bl {w w' : World} {A : Option Addr} {rs : List Ru} (h : RuAt w A rs) (hb : Below w.heap.size w w') : RuAt w' A rs := fun i x hx => by
  obtain ⟨ad, e, hc⟩ := h i x hx
  exact ⟨ad, e, fun j u hu => cell_below hb _ _ (hc j u hu)⟩
set_option maxHeartbeats 2000000 in
theorem c_l9Ok (A : Option Addr) (rs : List Ru) (c : Nat) (w : World) (h : RuAt w A rs) (hn : rs.length ≤ 1000) : Calls Tryz.prog 17 #[.slice A rs.length c] w fun e w' => e = .returned (.bool (rs.all Ru.ok && decide (rs.length ≤ 6))) ∧ Below w.heap.size w w' := by
  go_enter Tryz.func17, Tryz.ntmps17
  go_wp2
  go_loopw [3] (fun i W => ∃ j : Nat, i = .int .i64 j ∧ j ≤ rs.length ∧ (rs.take j).all Ru.ok = true ∧ Below w.heap.size w W) (fun i _ => rs.length - (intOf i).toNat)
  case atStart => exact ⟨0, rfl, by omega, by simp, Below.refl _ _⟩
  case round =>
    obtain ⟨j, rfl, hj, hok, hB⟩ := hrel
    by_cases hk : j < rs.length
    · have hd : decide (j < rs.length) = true := decide_eq_true hk
      obtain ⟨x, hx⟩ : ∃ x, rs[j]? = some x := ⟨rs[j], List.getElem?_eq_getElem hk⟩
      obtain ⟨ad, rfl, hc⟩ := (h.bl hB) j x hx
      have c0 : wr.cell? ⟨ad, j * 5, none⟩ = some (.int .i64 x.pos) := hc 0 _ rfl
      have c1 : wr.cell? ⟨ad, j * 5 + 1, none⟩ = some (.int .i64 x.op) := hc 1 _ rfl
      have c2 : wr.cell? ⟨ad, j * 5 + 2, none⟩ = some (.int .i64 x.num) := hc 2 _ rfl
      have c3 : wr.cell? ⟨ad, j * 5 + 3, none⟩ = some (.int .i64 x.ver) := hc 3 _ rfl
      have c4 : wr.cell? ⟨ad, j * 5 + 4, none⟩ = some (.int .i64 x.key) := hc 4 _ rfl
      clear hc
      have htk : rs.take (j + 1) = rs.take j ++ [x] := by
        rw [List.take_add_one, hx]; rfl
      have hidd := Lib.hid (And.intro htk hok)
      clear htk hok
      rcases Bool.eq_false_or_eq_true x.ok with hx1 | hx1
      · have hx2 : Ru.ok ⟨x.pos, x.op, x.num, x.ver, x.key⟩ = true := hx1
        go_wp2_with (go_at_call 28; ((with_reducible refine (c_l9RuleOk _ _ _ _ _ _).mono ?_); rintro e w1 ⟨rfl, hb1⟩; have hB := below_step (w := w) hB hb1))
        exact ⟨⟨j + 1, by go_num, by omega, by rw [hidd.out.1, List.all_append, hidd.out.2]; simp [hx1], hB⟩, by simp [intOf]; omega⟩
      · have hx2 : Ru.ok ⟨x.pos, x.op, x.num, x.ver, x.key⟩ = false := hx1
        have hall : rs.all Ru.ok = false := by
          rw [List.all_eq_false]
          exact ⟨x, List.mem_of_getElem? hx, by simp [hx1]⟩
        go_wp2_with (go_at_call 28; ((with_reducible refine (c_l9RuleOk _ _ _ _ _ _).mono ?_); rintro e w1 ⟨rfl, hb1⟩; have hB := below_step (w := w) hB hb1))
        rw [hall, Bool.false_and]
        go_ret
        exact ⟨rfl, hB⟩
    · have hd : decide (j < rs.length) = false := decide_eq_false hk
      have ej : rs.take j = rs := List.take_of_length_le (by omega)
      rw [ej] at hok
      go_wp2
      go_ret
      refine ⟨?_, hB⟩
      rw [hok, Bool.true_and]
      have e6 : decide ((rs.length : Int) ≤ 6) = decide (rs.length ≤ 6) := by
        by_cases h6 : rs.length ≤ 6
        · rw [decide_eq_true h6]; exact decide_eq_true (by omega)
        · rw [decide_eq_false h6]; exact decide_eq_false (by omega)
      exact ret_bool e6
end Go.Proofs.YtlofelnfcdbedaaGreat.S
