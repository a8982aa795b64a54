/- Rules: whether the program takes them. Rules: whether the program takes a list of them. -/
import Derived.Test.YtlofelnfcdbedaaGreatK19
namespace Go.Proofs.YtlofelnfcdbedaaGreat.S
open Go.RowKit Go.BigFrame Go.Sort
set_option linter.unusedVariables false
set_option linter.unusedSimpArgs false

theorem c_within_v {n a b : Int} {x : Bool} (h : inB n a b = x) (w : World) : Calls Tryz.prog 55 #[.int .i64 n, .int .i64 a, .int .i64 b] w fun e w' => e = .returned (.bool x) ∧ w' = w := by
  subst h
  unfold inB
  rcases Bool.eq_false_or_eq_true (decide (n ≥ a)) with h1 | h1
  · go_enter Tryz.func55, Tryz.ntmps55
    go_wp2
    go_ret
    exact ⟨ret_bool (by first | (simp_all; done) | (simp_all; intros; omega)), rfl⟩
  · go_enter Tryz.func55, Tryz.ntmps55
    go_wp2
    go_ret
    exact ⟨ret_bool (by first | (simp_all; done) | (simp_all; intros; omega)), rfl⟩
theorem c_asks_v {n : Int} {x : Bool} (h : inB n 12 15 = x) (w : World) : Calls Tryz.prog 56 #[.int .i64 n] w fun e w' => e = .returned (.bool x) ∧ w' = w := by
  go_enter Tryz.func56, Tryz.ntmps56
  go_wp2_with (go_at_call 55; (with_reducible refine (c_within_v h _).mono ?_); rintro e w' ⟨rfl, rfl⟩)
  go_ret
  exact ⟨rfl, rfl⟩
theorem c_numOk_v {n : Int} {x : Bool} (h : inB n 0 4294967295 = x) (w : World) : Calls Tryz.prog 57 #[.int .i64 n] w fun e w' => e = .returned (.bool x) ∧ w' = w := by
  go_enter Tryz.func57, Tryz.ntmps57
  go_wp2_with (go_at_call 55; (with_reducible refine (c_within_v h _).mono ?_); rintro e w' ⟨rfl, rfl⟩)
  go_ret
  exact ⟨rfl, rfl⟩
theorem c_valid (a o n v k : Int) (w : World) : Calls Tryz.prog 37 #[.agg #[.int .i64 a, .int .i64 o, .int .i64 n, .int .i64 v, .int .i64 k]] w fun e w' => e = .returned (.bool (Ru.ok ⟨a, o, n, v, k⟩)) ∧ Below w.heap.size w w' := by
  rcases Bool.eq_false_or_eq_true (inB a 0 11) with h1 | h1
  · rcases Bool.eq_false_or_eq_true (inB o 12 15) with h2 | h2
    · rcases Bool.eq_false_or_eq_true (inB n 0 255) with h3 | h3
      · rcases Bool.eq_false_or_eq_true (inB v 0 2) with h4 | h4
        · rcases Bool.eq_false_or_eq_true (inB k 0 4294967295) with h5 | h5
          · rcases Bool.eq_false_or_eq_true (k == 0) with h6 | h6
            · (have hr : Ru.ok ⟨a, o, n, v, k⟩ = true := (by simp [Ru.ok, h1, h2, h3, h4, h5, h6])); rw [hr]; clear hr; have hX := Blk.new w 40 #[.int .i64 a, .int .i64 o, .int .i64 n, .int .i64 v, .int .i64 k]; obtain ⟨x0, x1, x2, x3, x4⟩ := hX.cells5; clear hX; go_enter Tryz.func37, Tryz.ntmps37; go_wp2_with (first | (go_at_call 55; (with_reducible refine (c_within_v (by assumption) _).mono ?_); rintro e w' ⟨rfl, rfl⟩) | (go_at_call 56; (with_reducible refine (c_asks_v (by assumption) _).mono ?_); rintro e w' ⟨rfl, rfl⟩) | (go_at_call 57; (with_reducible refine (c_numOk_v (by assumption) _).mono ?_); rintro e w' ⟨rfl, rfl⟩)); go_ret; exact ⟨rfl, below_new w _⟩
            · rcases Bool.eq_false_or_eq_true (v == 2) with h7 | h7
              · (have hr : Ru.ok ⟨a, o, n, v, k⟩ = true := (by simp [Ru.ok, h1, h2, h3, h4, h5, h6, h7])); rw [hr]; clear hr; have hX := Blk.new w 40 #[.int .i64 a, .int .i64 o, .int .i64 n, .int .i64 v, .int .i64 k]; obtain ⟨x0, x1, x2, x3, x4⟩ := hX.cells5; clear hX; go_enter Tryz.func37, Tryz.ntmps37; go_wp2_with (first | (go_at_call 55; (with_reducible refine (c_within_v (by assumption) _).mono ?_); rintro e w' ⟨rfl, rfl⟩) | (go_at_call 56; (with_reducible refine (c_asks_v (by assumption) _).mono ?_); rintro e w' ⟨rfl, rfl⟩) | (go_at_call 57; (with_reducible refine (c_numOk_v (by assumption) _).mono ?_); rintro e w' ⟨rfl, rfl⟩)); go_ret; exact ⟨rfl, below_new w _⟩
              · (have hr : Ru.ok ⟨a, o, n, v, k⟩ = false := (by simp [Ru.ok, h1, h2, h3, h4, h5, h6, h7])); rw [hr]; clear hr; have hX := Blk.new w 40 #[.int .i64 a, .int .i64 o, .int .i64 n, .int .i64 v, .int .i64 k]; obtain ⟨x0, x1, x2, x3, x4⟩ := hX.cells5; clear hX; go_enter Tryz.func37, Tryz.ntmps37; go_wp2_with (first | (go_at_call 55; (with_reducible refine (c_within_v (by assumption) _).mono ?_); rintro e w' ⟨rfl, rfl⟩) | (go_at_call 56; (with_reducible refine (c_asks_v (by assumption) _).mono ?_); rintro e w' ⟨rfl, rfl⟩) | (go_at_call 57; (with_reducible refine (c_numOk_v (by assumption) _).mono ?_); rintro e w' ⟨rfl, rfl⟩)); go_ret; exact ⟨rfl, below_new w _⟩
          · (have hr : Ru.ok ⟨a, o, n, v, k⟩ = false := (by simp [Ru.ok, h1, h2, h3, h4, h5])); rw [hr]; clear hr; have hX := Blk.new w 40 #[.int .i64 a, .int .i64 o, .int .i64 n, .int .i64 v, .int .i64 k]; obtain ⟨x0, x1, x2, x3, x4⟩ := hX.cells5; clear hX; go_enter Tryz.func37, Tryz.ntmps37; go_wp2_with (first | (go_at_call 55; (with_reducible refine (c_within_v (by assumption) _).mono ?_); rintro e w' ⟨rfl, rfl⟩) | (go_at_call 56; (with_reducible refine (c_asks_v (by assumption) _).mono ?_); rintro e w' ⟨rfl, rfl⟩) | (go_at_call 57; (with_reducible refine (c_numOk_v (by assumption) _).mono ?_); rintro e w' ⟨rfl, rfl⟩)); go_ret; exact ⟨rfl, below_new w _⟩
        · (have hr : Ru.ok ⟨a, o, n, v, k⟩ = false := (by simp [Ru.ok, h1, h2, h3, h4])); rw [hr]; clear hr; have hX := Blk.new w 40 #[.int .i64 a, .int .i64 o, .int .i64 n, .int .i64 v, .int .i64 k]; obtain ⟨x0, x1, x2, x3, x4⟩ := hX.cells5; clear hX; go_enter Tryz.func37, Tryz.ntmps37; go_wp2_with (first | (go_at_call 55; (with_reducible refine (c_within_v (by assumption) _).mono ?_); rintro e w' ⟨rfl, rfl⟩) | (go_at_call 56; (with_reducible refine (c_asks_v (by assumption) _).mono ?_); rintro e w' ⟨rfl, rfl⟩) | (go_at_call 57; (with_reducible refine (c_numOk_v (by assumption) _).mono ?_); rintro e w' ⟨rfl, rfl⟩)); go_ret; exact ⟨rfl, below_new w _⟩
      · (have hr : Ru.ok ⟨a, o, n, v, k⟩ = false := (by simp [Ru.ok, h1, h2, h3])); rw [hr]; clear hr; have hX := Blk.new w 40 #[.int .i64 a, .int .i64 o, .int .i64 n, .int .i64 v, .int .i64 k]; obtain ⟨x0, x1, x2, x3, x4⟩ := hX.cells5; clear hX; go_enter Tryz.func37, Tryz.ntmps37; go_wp2_with (first | (go_at_call 55; (with_reducible refine (c_within_v (by assumption) _).mono ?_); rintro e w' ⟨rfl, rfl⟩) | (go_at_call 56; (with_reducible refine (c_asks_v (by assumption) _).mono ?_); rintro e w' ⟨rfl, rfl⟩) | (go_at_call 57; (with_reducible refine (c_numOk_v (by assumption) _).mono ?_); rintro e w' ⟨rfl, rfl⟩)); go_ret; exact ⟨rfl, below_new w _⟩
    · (have hr : Ru.ok ⟨a, o, n, v, k⟩ = false := (by simp [Ru.ok, h1, h2])); rw [hr]; clear hr; have hX := Blk.new w 40 #[.int .i64 a, .int .i64 o, .int .i64 n, .int .i64 v, .int .i64 k]; obtain ⟨x0, x1, x2, x3, x4⟩ := hX.cells5; clear hX; go_enter Tryz.func37, Tryz.ntmps37; go_wp2_with (first | (go_at_call 55; (with_reducible refine (c_within_v (by assumption) _).mono ?_); rintro e w' ⟨rfl, rfl⟩) | (go_at_call 56; (with_reducible refine (c_asks_v (by assumption) _).mono ?_); rintro e w' ⟨rfl, rfl⟩) | (go_at_call 57; (with_reducible refine (c_numOk_v (by assumption) _).mono ?_); rintro e w' ⟨rfl, rfl⟩)); go_ret; exact ⟨rfl, below_new w _⟩
  · (have hr : Ru.ok ⟨a, o, n, v, k⟩ = false := (by simp [Ru.ok, h1])); rw [hr]; clear hr; have hX := Blk.new w 40 #[.int .i64 a, .int .i64 o, .int .i64 n, .int .i64 v, .int .i64 k]; obtain ⟨x0, x1, x2, x3, x4⟩ := hX.cells5; clear hX; go_enter Tryz.func37, Tryz.ntmps37; go_wp2_with (first | (go_at_call 55; (with_reducible refine (c_within_v (by assumption) _).mono ?_); rintro e w' ⟨rfl, rfl⟩) | (go_at_call 56; (with_reducible refine (c_asks_v (by assumption) _).mono ?_); rintro e w' ⟨rfl, rfl⟩) | (go_at_call 57; (with_reducible refine (c_numOk_v (by assumption) _).mono ?_); rintro e w' ⟨rfl, rfl⟩)); go_ret; exact ⟨rfl, below_new w _⟩
theorem c_RulesOk1 {a o n v k : Int} {x : Bool} (h : Ru.ok ⟨a, o, n, v, k⟩ = x) (w : World) : Calls Tryz.prog 36 #[.agg #[.int .i64 a, .int .i64 o, .int .i64 n, .int .i64 v, .int .i64 k]] w fun e w' => e = .returned (.bool !x) ∧ Below w.heap.size w w' := by
  have hX := Blk.new w 40 #[.int .i64 a, .int .i64 o, .int .i64 n, .int .i64 v, .int .i64 k]
  obtain ⟨x0, x1, x2, x3, x4⟩ := hX.cells5
  clear hX
  go_enter Tryz.func36, Tryz.ntmps36
  go_wp2_with (go_at_call 37; (with_reducible refine (c_valid _ _ _ _ _ _).mono ?_); rintro e w1 ⟨rfl, hb1⟩)
  go_ret
  exact ⟨rfl, below_step (below_new w _) hb1⟩
end Go.Proofs.YtlofelnfcdbedaaGreat.S
namespace Go.Proofs.YtlofelnfcdbedaaGreat.S
open Go.RowKit Go.BigFrame Go.Sort
set_option linter.unusedVariables false
set_option linter.unusedSimpArgs false

set_option maxHeartbeats 2000000 in
theorem c_IndexFunc (A : Option Addr) (rs : List Ru) (c : Nat) (w : World) (h : RuAt w A rs) (hn : rs.length ≤ 1000) : Calls Tryz.prog 54 #[.slice A rs.length c, .func (.func 36) #[] #[]] w fun e w' => ∃ r : Int, e = .returned (.int .i64 r) ∧ decide (r ≥ 0) = (!(rs.all Ru.ok)) ∧ Below w.heap.size w w' := by
  go_enter Tryz.func54, Tryz.ntmps54
  go_wp2
  go_loopw [8] (fun i W => ∃ j : Nat, i = .int .i64 j ∧ j ≤ rs.length ∧ (rs.take j).all Ru.ok = true ∧ Below w.heap.size w W) (fun i _ => rs.length - (intOf i).toNat)
  case atStart => exact ⟨0, rfl, by omega, by simp, Below.refl _ _⟩
  case round =>
    obtain ⟨j, rfl, hj, hok, hB⟩ := hrel
    by_cases hk : j < rs.length
    · have hd : decide (j < rs.length) = true := decide_eq_true hk
      obtain ⟨x, hx⟩ : ∃ x, rs[j]? = some x := ⟨rs[j], List.getElem?_eq_getElem hk⟩
      obtain ⟨ad, rfl, hc⟩ := (h.bl hB) j x hx
      have c0 : wr.cell? ⟨ad, j * 5, none⟩ = some (.int .i64 x.pos) := hc 0 _ rfl
      have c1 : wr.cell? ⟨ad, j * 5 + 1, none⟩ = some (.int .i64 x.op) := hc 1 _ rfl
      have c2 : wr.cell? ⟨ad, j * 5 + 2, none⟩ = some (.int .i64 x.num) := hc 2 _ rfl
      have c3 : wr.cell? ⟨ad, j * 5 + 3, none⟩ = some (.int .i64 x.ver) := hc 3 _ rfl
      have c4 : wr.cell? ⟨ad, j * 5 + 4, none⟩ = some (.int .i64 x.key) := hc 4 _ rfl
      clear hc
      have htk : rs.take (j + 1) = rs.take j ++ [x] := by
        rw [List.take_add_one, hx]; rfl
      have hidd := Lib.hid (And.intro htk hok)
      clear htk hok
      rcases Bool.eq_false_or_eq_true (Ru.ok ⟨x.pos, x.op, x.num, x.ver, x.key⟩) with hx1 | hx1
      · go_wp2_with (go_at_call 36; ((with_reducible refine (c_RulesOk1 hx1 _).mono ?_); rintro e w1 ⟨rfl, hb1⟩; have hB := below_step (w := w) hB hb1))
        exact ⟨⟨j + 1, by go_num, by omega, by rw [hidd.out.1, List.all_append, hidd.out.2]; simp [show x.ok = true from hx1], hB⟩, by simp [intOf]; omega⟩
      · have hall : rs.all Ru.ok = false := by
          rw [List.all_eq_false]
          exact ⟨x, List.mem_of_getElem? hx, by simp [show x.ok = false from hx1]⟩
        go_wp2_with (go_at_call 36; ((with_reducible refine (c_RulesOk1 hx1 _).mono ?_); rintro e w1 ⟨rfl, hb1⟩; have hB := below_step (w := w) hB hb1))
        rw [hall]
        go_ret
        exact ⟨j, rfl, by simp, hB⟩
    · have hd : decide (j < rs.length) = false := decide_eq_false hk
      have ej : rs.take j = rs := List.take_of_length_le (by omega)
      rw [ej] at hok
      go_wp2
      go_ret
      exact ⟨-1, rfl, by rw [hok]; rfl, hB⟩
theorem c_ContainsFunc (A : Option Addr) (rs : List Ru) (c : Nat) (w : World) (h : RuAt w A rs) (hn : rs.length ≤ 1000) : Calls Tryz.prog 35 #[.slice A rs.length c, .func (.func 36) #[] #[]] w fun e w' => e = .returned (.bool (!(rs.all Ru.ok))) ∧ Below w.heap.size w w' := by
  go_enter Tryz.func35, Tryz.ntmps35
  go_wp2_with (go_at_call 54; ((with_reducible refine (c_IndexFunc _ _ _ _ h hn).mono ?_); rintro e w1 ⟨r, rfl, hr, hb1⟩))
  go_ret
  exact ⟨rfl, hb1⟩
/-- Whether a list of rules is ok. -/
def okB (rs : List Ru) : Bool := rs.all Ru.ok && decide (rs.length ≤ 6)
theorem c_RulesOk (A : Option Addr) (rs : List Ru) (c : Nat) (w : World) (h : RuAt w A rs) (hn : rs.length ≤ 1000) : Calls Tryz.prog 22 #[.slice A rs.length c] w fun e w' => e = .returned (.bool (okB rs)) ∧ Below w.heap.size w w' := by
  unfold okB
  by_cases h6 : rs.length ≤ 6
  · have hd : decide (rs.length ≤ 6) = true := decide_eq_true h6
    have hd' : decide ((rs.length : Int) ≤ 6) = true := decide_eq_true (by omega)
    go_enter Tryz.func22, Tryz.ntmps22
    go_wp2_with (go_at_call 35; ((with_reducible refine (c_ContainsFunc _ _ _ _ h hn).mono ?_); rintro e w1 ⟨rfl, hb1⟩))
    go_ret
    exact ⟨ret_bool (by simp [hd]), hb1⟩
  · have hd : decide (rs.length ≤ 6) = false := decide_eq_false h6
    have hd' : decide ((rs.length : Int) ≤ 6) = false := decide_eq_false (by omega)
    go_enter Tryz.func22, Tryz.ntmps22
    go_wp2
    go_ret
    exact ⟨ret_bool (by simp [hd]), Below.refl _ _⟩
end Go.Proofs.YtlofelnfcdbedaaGreat.S
