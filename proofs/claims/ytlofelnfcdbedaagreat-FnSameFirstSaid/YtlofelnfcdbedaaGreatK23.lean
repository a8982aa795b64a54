/- Rules: what they say of bytes. Rules: what they say of bytes. Rules: what the program says of bytes. -/
import Derived.Test.YtlofelnfcdbedaaGreatK19
namespace Go.Proofs.YtlofelnfcdbedaaGreat.S
open Go.RowKit Go.BigFrame Go.Sort
set_option linter.unusedVariables false
set_option linter.unusedSimpArgs false

theorem c_l2Holds (op a b : Int) (w : World) : Calls Tryz.prog 47 #[.int .i64 op, .int .i64 a, .int .i64 b] w fun e w' => e = .returned (.bool (hld op a b)) ∧ w' = w := by
  unfold hld
  rcases Bool.eq_false_or_eq_true (op == 12) with h1 | h1
  · go_enter Tryz.func47, Tryz.ntmps47
    go_wp2
    go_ret
    exact ⟨rfl, rfl⟩
  rcases Bool.eq_false_or_eq_true (op == 13) with h2 | h2
  · go_enter Tryz.func47, Tryz.ntmps47
    go_wp2
    go_ret
    exact ⟨rfl, rfl⟩
  rcases Bool.eq_false_or_eq_true (op == 14) with h3 | h3
  · go_enter Tryz.func47, Tryz.ntmps47
    go_wp2
    go_ret
    exact ⟨rfl, rfl⟩
  · go_enter Tryz.func47, Tryz.ntmps47
    go_wp2
    go_ret
    exact ⟨rfl, rfl⟩
theorem c_holds (op a b : Int) (w : World) : Calls Tryz.prog 38 #[.int .i64 op, .int .i64 a, .int .i64 b] w fun e w' => e = .returned (.bool (hld op a b)) ∧ w' = w := by
  unfold hld
  rcases Bool.eq_false_or_eq_true (op == 12) with h1 | h1
  · go_enter Tryz.func38, Tryz.ntmps38
    go_wp2
    go_ret
    exact ⟨rfl, rfl⟩
  rcases Bool.eq_false_or_eq_true (op == 13) with h2 | h2
  · go_enter Tryz.func38, Tryz.ntmps38
    go_wp2
    go_ret
    exact ⟨rfl, rfl⟩
  rcases Bool.eq_false_or_eq_true (op == 14) with h3 | h3
  · go_enter Tryz.func38, Tryz.ntmps38
    go_wp2
    go_ret
    exact ⟨rfl, rfl⟩
  · go_enter Tryz.func38, Tryz.ntmps38
    go_wp2
    go_ret
    exact ⟨rfl, rfl⟩
end Go.Proofs.YtlofelnfcdbedaaGreat.S
namespace Go.Proofs.YtlofelnfcdbedaaGreat.S
open Go.RowKit Go.BigFrame Go.Sort
set_option linter.unusedVariables false
set_option linter.unusedSimpArgs false

/-- The places of rules are places of bytes. -/
def PosOk (rs : List Ru) : Prop := ∀ x ∈ rs, 0 ≤ x.pos ∧ x.pos ≤ 11
theorem posOk_of {rs : List Ru} (h : rs.all Ru.ok = true) : PosOk rs := fun x hx => by
  have := List.all_eq_true.1 h x hx
  simp only [Ru.ok, Bool.and_eq_true, inB_true] at this
  exact this.1.1.1.1.1
/-- What rules say of bytes, as a value. -/
def verV (p : Int × Int) : Value := .tuple #[.int .i64 p.1, .int .i64 p.2]
theorem c_l2Holds_v {op a b : Int} {x : Bool} (h : hld op a b = x) (w : World) : Calls Tryz.prog 47 #[.int .i64 op, .int .i64 a, .int .i64 b] w fun e w' => e = .returned (.bool x) ∧ w' = w :=
  (c_l2Holds op a b w).mono fun _ _ e => ⟨h ▸ e.1, e.2⟩
theorem verd_step {rs : List Ru} {j : Nat} {x : Ru} (hx : rs[j]? = some x) (c : List UInt8) : verd (rs.drop j) c = if hld x.op (byt c x.pos) x.num then (x.ver, x.key) else verd (rs.drop (j + 1)) c := by
  obtain ⟨hj, rfl⟩ := List.getElem?_eq_some_iff.1 hx
  rw [List.drop_eq_getElem_cons hj]
  rfl
theorem byt_of (s : ByteArray) {q : Nat} (hq : q < s.size) : wrap64 (((s[q]'hq).toNat : Nat) : Int) = byt s.data.toList (q : Int) := by
  have h := UInt8.toNat_lt (s[q]'hq)
  have e : byt s.data.toList (q : Int) = (((s[q]'hq).toNat : Nat) : Int) := by
    unfold byt
    have hq' : q < s.data.toList.length := by simpa using hq
    simp only [Int.toNat_natCast, List.getD_eq_getElem?_getD, List.getElem?_eq_getElem hq', Option.getD_some]
    rfl
  rw [e]
  unfold wrap64
  omega
set_option maxHeartbeats 2000000 in
theorem c_l9Of (A : Option Addr) (rs : List Ru) (c : Nat) (s : ByteArray) (w : World) (h : RuAt w A rs) (hp : PosOk rs) (hs : s.size = 12) (hn : rs.length ≤ 1000) : Calls Tryz.prog 30 #[.slice A rs.length c, .string s] w fun e w' => e = .returned (verV (verd rs s.data.toList)) ∧ Below w.heap.size w w' := by
  go_enter Tryz.func30, Tryz.ntmps30
  go_wp2
  go_loopw [6] (fun i W => ∃ j : Nat, i = .int .i64 j ∧ j ≤ rs.length ∧ verd rs s.data.toList = verd (rs.drop j) s.data.toList ∧ Below w.heap.size w W) (fun i _ => rs.length - (intOf i).toNat)
  case atStart => exact ⟨0, rfl, by omega, by simp, Below.refl _ _⟩
  case round =>
    obtain ⟨j, rfl, hj, hv, hB⟩ := hrel
    by_cases hk : j < rs.length
    · have hd : decide (j < rs.length) = true := decide_eq_true hk
      obtain ⟨⟨p, o, n, v, k⟩, hx⟩ : ∃ x, rs[j]? = some x := ⟨rs[j], List.getElem?_eq_getElem hk⟩; obtain ⟨hp0, hp1⟩ : 0 ≤ p ∧ p ≤ 11 := hp _ (List.mem_of_getElem? hx); obtain ⟨q, rfl⟩ : ∃ q : Nat, p = q := ⟨p.toNat, by omega⟩; have hq : q < s.size := (by omega); have hqi : (q : Int) < 12 := (by omega); have hqd : decide (q < s.size) = true := decide_eq_true hq; clear hp0 hp1; obtain ⟨ad, rfl, hc⟩ := (h.bl hB) j _ hx; have c0 : wr.cell? ⟨ad, j * 5, none⟩ = some (.int .i64 q) := hc 0 _ rfl; have c1 : wr.cell? ⟨ad, j * 5 + 1, none⟩ = some (.int .i64 o) := hc 1 _ rfl; have c2 : wr.cell? ⟨ad, j * 5 + 2, none⟩ = some (.int .i64 n) := hc 2 _ rfl; have c3 : wr.cell? ⟨ad, j * 5 + 3, none⟩ = some (.int .i64 v) := hc 3 _ rfl; have c4 : wr.cell? ⟨ad, j * 5 + 4, none⟩ = some (.int .i64 k) := hc 4 _ rfl; clear hc
      have hidd := Lib.hid (hv.trans (verd_step hx _))
      clear hv hx
      have hb := byt_of s hq
      rcases Bool.eq_false_or_eq_true (hld o (byt s.data.toList q) n) with ht | ht
      · go_upto_region 4 with fail
        go_big_quiet ((go_at_call 47; exact Calls.quiet_of_same (c_l2Holds_v ht _)))
        go_upto_region 5 with fail
        go_big_region
        all_goals
          go_wp2
          go_ret2
          refine ⟨?_, by (with_reducible (repeat (first | exact Below.refl _ _ | assumption | apply below_alloc | apply below_drewN | apply below_drew | (refine below_step ?_ (by assumption)))))⟩
          rw [hidd.out, if_pos ht]
          rfl
      · go_upto_region 4 with fail
        go_big_quiet ((go_at_call 47; exact Calls.quiet_of_same (c_l2Holds_v ht _)))
        go_wp2_with fail
        refine ⟨⟨j + 1, by go_num, by omega, ?_, by (with_reducible (repeat (first | exact Below.refl _ _ | assumption | apply below_alloc | apply below_drewN | apply below_drew | (refine below_step ?_ (by assumption)))))⟩, by simp [intOf]; omega⟩
        rw [hidd.out, if_neg (by rw [ht]; exact Bool.false_ne_true)]
    · have hd : decide (j < rs.length) = false := decide_eq_false hk
      have ej : rs.drop j = [] := List.drop_of_length_le (by omega)
      rw [ej] at hv
      have hidd := Lib.hid hv
      clear hv
      go_wp2
      go_ret2
      refine ⟨?_, hB⟩
      rw [hidd.out]
      rfl
end Go.Proofs.YtlofelnfcdbedaaGreat.S
namespace Go.Proofs.YtlofelnfcdbedaaGreat.S
open Go.RowKit Go.BigFrame Go.Sort
set_option linter.unusedVariables false
set_option linter.unusedSimpArgs false

theorem cell_drewN {w : World} {a : Addr} {v : Value} (h : w.cell? a = some v) (n : Nat) : (w.drewN n).cell? a = some v := h
theorem c_holds_v {op a b : Int} {x : Bool} (h : hld op a b = x) (w : World) : Calls Tryz.prog 38 #[.int .i64 op, .int .i64 a, .int .i64 b] w fun e w' => e = .returned (.bool x) ∧ w' = w :=
  (c_holds op a b w).mono fun _ _ e => ⟨h ▸ e.1, e.2⟩
set_option maxHeartbeats 2000000 in
theorem c_ruled (A : Option Addr) (rs : List Ru) (c : Nat) (s : ByteArray) (w : World) (h : RuAt w A rs) (hp : PosOk rs) (hs : s.size = 12) (hn : rs.length ≤ 1000) : Calls Tryz.prog 23 #[.slice A rs.length c, .string s] w fun e w' => e = .returned (verV (verd rs s.data.toList)) ∧ Below w.heap.size w w' := by
  go_enter Tryz.func23, Tryz.ntmps23
  go_wp2
  go_loopw [10] (fun i W => ∃ j : Nat, i = .int .i64 j ∧ j ≤ rs.length ∧ verd rs s.data.toList = verd (rs.drop j) s.data.toList ∧ Below w.heap.size w W) (fun i _ => rs.length - (intOf i).toNat)
  case atStart => exact ⟨0, rfl, by omega, by simp, Below.refl _ _⟩
  case round =>
    obtain ⟨j, rfl, hj, hv, hB⟩ := hrel
    by_cases hk : j < rs.length
    · have hd : decide (j < rs.length) = true := decide_eq_true hk
      obtain ⟨⟨p, o, n, v, k⟩, hx⟩ : ∃ x, rs[j]? = some x := ⟨rs[j], List.getElem?_eq_getElem hk⟩; obtain ⟨hp0, hp1⟩ : 0 ≤ p ∧ p ≤ 11 := hp _ (List.mem_of_getElem? hx); obtain ⟨q, rfl⟩ : ∃ q : Nat, p = q := ⟨p.toNat, by omega⟩; have hq : q < s.size := (by omega); have hqi : (q : Int) < 12 := (by omega); have hqd : decide (q < s.size) = true := decide_eq_true hq; clear hp0 hp1; obtain ⟨ad, rfl, hc⟩ := (h.bl hB) j _ hx; have c0 : wr.cell? ⟨ad, j * 5, none⟩ = some (.int .i64 q) := hc 0 _ rfl; have c1 : wr.cell? ⟨ad, j * 5 + 1, none⟩ = some (.int .i64 o) := hc 1 _ rfl; have c2 : wr.cell? ⟨ad, j * 5 + 2, none⟩ = some (.int .i64 n) := hc 2 _ rfl; have c3 : wr.cell? ⟨ad, j * 5 + 3, none⟩ = some (.int .i64 v) := hc 3 _ rfl; have c4 : wr.cell? ⟨ad, j * 5 + 4, none⟩ = some (.int .i64 k) := hc 4 _ rfl; clear hc
      have hidd := Lib.hid (hv.trans (verd_step hx _))
      clear hv hx
      have hb := byt_of s hq
      have hX := Blk.new wr 40 #[.int .i64 q, .int .i64 o, .int .i64 n, .int .i64 v, .int .i64 k]
      obtain ⟨x0, x1, x2, x3, x4⟩ := hX.cells5
      clear hX
      have hB := below_alloc hB (.cells #[.int .i64 q, .int .i64 o, .int .i64 n, .int .i64 v, .int .i64 k] 40)
      rcases Bool.eq_false_or_eq_true (hld o (byt s.data.toList q) n) with ht | ht
      · go_upto_region 4 with fail
        go_big_quiet ((go_at_call 38; exact Calls.quiet_of_same (c_holds_v ht _)))
        have x3 := fun d => cell_drewN x3 d
        have x4 := fun d => cell_drewN x4 d
        go_upto_region 5 with fail
        go_big_region
        all_goals
          go_wp2
          go_ret2
          refine ⟨?_, by (with_reducible (repeat (first | exact Below.refl _ _ | assumption | apply below_alloc | apply below_drewN | apply below_drew | (refine below_step ?_ (by assumption)))))⟩
          rw [hidd.out, if_pos ht]
          rfl
      · go_upto_region 4 with fail
        go_big_quiet ((go_at_call 38; exact Calls.quiet_of_same (c_holds_v ht _)))
        go_wp2_with fail
        refine ⟨⟨j + 1, by go_num, by omega, ?_, by (with_reducible (repeat (first | exact Below.refl _ _ | assumption | apply below_alloc | apply below_drewN | apply below_drew | (refine below_step ?_ (by assumption)))))⟩, by simp [intOf]; omega⟩
        rw [hidd.out, if_neg (by rw [ht]; exact Bool.false_ne_true)]
    · have hd : decide (j < rs.length) = false := decide_eq_false hk
      have ej : rs.drop j = [] := List.drop_of_length_le (by omega)
      rw [ej] at hv
      have hidd := Lib.hid hv
      clear hv
      go_wp2
      go_ret2
      refine ⟨?_, hB⟩
      rw [hidd.out]
      rfl
end Go.Proofs.YtlofelnfcdbedaaGreat.S
