/- Rules: a list of them joined to another. Rules: two lists joined by the library. Rules: two lists joined by the library: the walk. -/
import Derived.Test.YtlofelnfcdbedaaGreatK25
import Derived.Lib.AppendZeros
namespace Go.Proofs.YtlofelnfcdbedaaGreat.S
open Go.RowKit Go.BigFrame Go.Sort
set_option linter.unusedVariables false
set_option linter.unusedSimpArgs false

/-- The cells of rules. -/
def ruC : List Ru → List Value
  | [] => []
  | r :: rs => r.cs.toList ++ ruC rs
theorem ruC_len : ∀ rs : List Ru, (ruC rs).length = rs.length * 5
  | [] => rfl
  | r :: rs => by simp [ruC, ruC_len rs, Ru.cs]; omega
theorem ruC_append : ∀ xs ys : List Ru, ruC (xs ++ ys) = ruC xs ++ ruC ys
  | [], _ => rfl
  | x :: xs, ys => by simp [ruC, ruC_append xs ys]
theorem ruC_one : ∀ (rs : List Ru), ∀ u ∈ ruC rs, ∃ x : Int, u = .int .i64 x
  | [], _, h => by cases h
  | r :: rs, u, h => by
    rcases List.mem_append.1 h with h | h
    · simp only [Ru.cs, List.mem_cons, List.not_mem_nil, or_false] at h
      rcases h with rfl | rfl | rfl | rfl | rfl <;> exact ⟨_, rfl⟩
    · exact ruC_one rs u h
theorem ruC_at : ∀ (rs : List Ru) (i j : Nat) (x : Ru), rs[i]? = some x → j < 5 → (ruC rs)[i * 5 + j]? = x.cs[j]?
  | [], _, _, _, h, _ => by simp at h
  | r :: rs, 0, j, x, h, hj => by
    simp only [List.getElem?_cons_zero, Option.some.injEq] at h
    subst h
    rw [ruC, List.getElem?_append_left (by simp [Ru.cs]; omega)]
    simp
  | r :: rs, i + 1, j, x, h, hj => by
    rw [List.getElem?_cons_succ] at h
    rw [ruC, List.getElem?_append_right (by simp [Ru.cs]; omega), ← ruC_at rs i j x h hj]
    congr 1
    simp [Ru.cs]
    omega
theorem ruC_get {rs : List Ru} {k : Nat} {u : Value} (h : (ruC rs)[k]? = some u) : ∃ x, rs[k / 5]? = some x ∧ x.cs[k % 5]? = some u := by
  have hk : k < rs.length * 5 := by
    have := (List.getElem?_eq_some_iff.1 h).1
    rwa [ruC_len] at this
  obtain ⟨x, hx⟩ : ∃ x, rs[k / 5]? = some x := ⟨rs[k / 5]'(by omega), List.getElem?_eq_getElem _⟩
  refine ⟨x, hx, ?_⟩
  rw [← ruC_at rs (k / 5) (k % 5) x hx (by omega), show k / 5 * 5 + k % 5 = k by omega]
  exact h
/-- A slice of rules. -/
def RuSl (w : World) (v : Value) (rs : List Ru) : Prop := ∃ (A : Option Addr) (c : Nat), v = .slice A rs.length c ∧ RuAt w A rs ∧ (A = none → c = 0)
theorem RuSl.bl {w w' : World} {v : Value} {rs : List Ru} (h : RuSl w v rs) (hb : Below w.heap.size w w') : RuSl w' v rs := by
  obtain ⟨A, c, e, h, hc⟩ := h
  exact ⟨A, c, e, h.bl hb, hc⟩
/-- A row of rules, of the call's own. -/
abbrev RuRow (W : World) (base : Nat) (v : Value) (rs : List Ru) : Prop := W.ownsRow base 40 5 v rs.length (ruC rs)
theorem RuRow.sl {W : World} {base : Nat} {v : Value} {rs : List Ru} (h : RuRow W base v rs) : RuSl W v rs := by
  obtain ⟨h0, h1⟩ := h
  rcases h1 with ⟨rfl, hn⟩ | ⟨g, cap, cur, rfl, hb, hg, hn, hm, hs, ht⟩
  · have : rs = [] := List.length_eq_zero_iff.1 hn
    subst this
    exact ⟨none, 0, rfl, fun i x hi => by simp at hi, fun _ => rfl⟩
  · refine ⟨_, cap, rfl, fun i x hi => ⟨g, rfl, fun j u hu => ?_⟩, by simp⟩
    have hj : j < 5 := by
      have := (Array.getElem?_eq_some_iff.1 hu).1
      simpa [Ru.cs] using this
    have hi' : i < rs.length := (List.getElem?_eq_some_iff.1 hi).1
    have e : (ruC rs)[i * 5 + j]? = some u := by rw [ruC_at rs i j x hi hj]; exact hu
    rw [cell_of_row W g (i * 5 + j) cur 40 (0, 0) hg]
    rw [← ht, List.getElem?_take, if_pos (by omega)] at e
    simpa using e
theorem RuRow.low {W : World} {base base' : Nat} {v : Value} {l : List Ru} (h : RuRow W base v l) (hb : base' ≤ base) : RuRow W base' v l := by
  obtain ⟨h0, h1⟩ := h
  refine ⟨h0, ?_⟩
  rcases h1 with h1 | ⟨g, cap, cur, e, hg, hr⟩
  · exact .inl h1
  · exact .inr ⟨g, cap, cur, e, Nat.le_trans hb hg, hr⟩
theorem rurow_below {w W W' : World} {v : Value} {l : List Ru} (hB : Below w.heap.size w W) (h : RuRow W w.heap.size v l) (hG : W.grownBy W' v.ownBlock) : Below w.heap.size w W' :=
  hB.grown hG hB.size (fun k hk => (World.ownsRow.lt h k hk).1)
theorem elt_Rule' : Elt Tryz.prog 23 40 5 40 :=
  elt_of (z := .agg #[.int .i64 0, .int .i64 0, .int .i64 0, .int .i64 0, .int .i64 0]) Tryz.underlying23 (by kernel_rfl) rfl (by decide)
/-- append of a list of rules onto a row of the call's own. -/
theorem app_ru {ops : Array Oper} {rest : List Oper} {o : Oper} {a : Act} {Q : Exit → Act → World → Prop} (hgd : o.guard = none) (s x : Operand) (ho : o.op = .call { callee := .builtin .append, args := #[s, x], argTypes := #[23, 23] }) (W : World) (base : Nat) (v : Value) (l : List Ru) (hs : a.eval s = v) (v2 : Value) (m : List Ru) (hx : a.eval x = v2)
    (h2 : RuSl W v2 m) (hown : RuRow W base v l) (hn : l.length + m.length ≤ 100000) (hbase : base ≤ W.heap.size)
    (h : ∀ v' w', RuRow w' base v' (l ++ m) → W.grownBy w' v.ownBlock → wpList Tryz.prog ops Q rest (a.put o.dst v') w') : wpList Tryz.prog ops Q (o :: rest) a W := by
  obtain ⟨A, c, rfl, hm, hc⟩ := h2
  obtain ⟨i, z, hi, hz, e2, e3, e4⟩ := elt_Rule'.inf
  cases A with
  | none =>
    obtain rfl := hc rfl
    have hm0 : m = [] := by
      cases m with
      | nil => rfl
      | cons y m =>
        obtain ⟨b, e, _⟩ := hm 0 y rfl
        cases e
    subst hm0
    exact wpList_append_own_none hgd s x 23 ho base 40 i 5 elt_Rule'.und hi v l.length _ hs hown hx (h v W (by simpa using hown) (gr_refl W _))
  | some ad =>
    refine wpList_append_own _ hgd s x 23 ho base 40 i z 5 40 elt_Rule'.und hi hz e2 e3 e4 elt_Rule'.pos v l.length _ hs hown ad m.length c (ruC m) hx (ruC_len m) (fun j u hj => ?_) (fun u hu => by obtain ⟨y, rfl⟩ := ruC_one m u hu; rfl) (by unfold maxLen; omega) (by omega) hbase fun v' w' h5 h6 _ => h v' w' (by rw [RuRow, List.length_append, ruC_append]; exact h5) h6
    obtain ⟨y, hy, hu⟩ := ruC_get hj
    obtain ⟨b, e, hcc⟩ := hm _ _ hy
    cases e
    have := hcc _ _ hu
    rw [show j / 5 * 5 + j % 5 = j by omega] at this
    rw [add_plain]
    exact this
end Go.Proofs.YtlofelnfcdbedaaGreat.S
namespace Go.Proofs.YtlofelnfcdbedaaGreat.S
open Go.RowKit Go.BigFrame Go.Sort
set_option linter.unusedVariables false
set_option linter.unusedSimpArgs false

set_option maxRecDepth 100000
set_option maxHeartbeats 2000000
theorem zeroCells_size (z : Array Value) (n : Nat) : (Builtin.zeroCells z n).size = n * z.size := by
  simp [Builtin.zeroCells]
theorem grow_zeros (n : Nat) (w : World) (h0 : 0 < n) (hn : n ≤ 100000) : ∃ (cap : Nat) (w' : World), (Builtin.append_ #[23, 3] 23 #[.slice none 0 0, .int .i64 n]).run Tryz.prog w = .ok (.slice (some ⟨w.heap.size, 0, none⟩) n cap) w' ∧ n ≤ cap ∧ RuRow w' w.heap.size (.slice (some ⟨w.heap.size, 0, none⟩) 0 cap) [] ∧ Below w.heap.size w w' := by
  obtain ⟨i, z, hi, hz, e2, e3, e4⟩ := elt_Rule'.inf
  have hr := Lib.run_append_nil_zeros (P := Tryz.prog) w 23 3 23 40 i z .i64 .i64 elt_Rule'.und Tryz.underlying3 hi hz n h0 (by omega) (by omega) (by rw [e3]; omega)
  refine ⟨_, _, hr, grownCap_ge _ _ _ _, ?_, below_alloc (below_drew (Below.refl _ _)) _⟩
  refine World.ownsRow_made w.drew _ _ (Nat.le_refl _) (grownCap_le_maxLen _ _ _ _ (by unfold maxLen; omega)) ?_
  have hge := grownCap_ge w n 0 40
  rw [Array.size_append, zeroCells_size, zeroCells_size, e4, ← Nat.add_mul]
  congr 1
  omega
theorem c_Grow (n : Nat) (w : World) (hn : n ≤ 100000) : Calls Tryz.prog 69 #[.slice none 0 0, .int .i64 n] w fun e w' => ∃ (A : Option Addr) (c : Nat), e = .returned (.slice A 0 c) ∧ RuRow w' w.heap.size (.slice A 0 c) [] ∧ Below w.heap.size w w' := by
  rcases Nat.eq_zero_or_pos n with rfl | h0
  · go_enter Tryz.func69, Tryz.ntmps69
    go_wp2
    go_ret
    exact ⟨none, 0, rfl, World.ownsRow_nil _ _ _ _, Below.refl _ _⟩
  · obtain ⟨cap, w1, hr, hc, hO, hB⟩ := grow_zeros n w h0 hn
    have hd : decide ((n : Int) > 0) = true := by simp; omega
    go_enter Tryz.func69, Tryz.ntmps69
    go_wp2_with (at_builtin; (refine Lib.wpList_append_run w rfl _ _ 23 3 rfl (.slice none 0 0) (.int .i64 n) rfl rfl _ _ hr ?_))
    go_ret
    exact ⟨_, _, rfl, hO, hB⟩
end Go.Proofs.YtlofelnfcdbedaaGreat.S
namespace Go.Proofs.YtlofelnfcdbedaaGreat.S
open Go.RowKit Go.BigFrame Go.Sort
set_option linter.unusedVariables false
set_option linter.unusedSimpArgs false

set_option maxRecDepth 100000
set_option maxHeartbeats 2000000
theorem c_Concat (v1 v2 : Value) (xs ys : List Ru) (c g : Nat) (w : World) (hg : Blk w g 23 #[v1, v2]) (h1 : RuSl w v1 xs) (h2 : RuSl w v2 ys) (hna : xs.length ≤ 1000) (hnb : ys.length ≤ 1000) : Calls Tryz.prog 58 #[.slice (some ⟨g, 0, none⟩) 2 c] w fun e w' => ∃ v, e = .returned v ∧ RuRow w' w.heap.size v (xs ++ ys) ∧ Below w.heap.size w w' := by
  have hcell : ∀ i : Nat, i < 2 → ∃ (L : List Ru) (AL : Option Addr) (cL : Nat), w.cell? ⟨g, i, none⟩ = some (.slice AL L.length cL) ∧ RuSl w (.slice AL L.length cL) L ∧ L.length ≤ 1000 ∧ (if i + 1 = 0 then [] else if i + 1 = 1 then xs else xs ++ ys) = (if i = 0 then [] else if i = 1 then xs else xs ++ ys) ++ L := fun i hi => by
    obtain ⟨A, ca, rfl, ha⟩ := h1
    obtain ⟨B, cb, rfl, hb⟩ := h2
    rcases (show i = 0 ∨ i = 1 by omega) with rfl | rfl
    · exact ⟨xs, A, ca, hg.cell 0, ⟨A, ca, rfl, ha⟩, hna, by simp⟩
    · exact ⟨ys, B, cb, hg.cell 1, ⟨B, cb, rfl, hb⟩, hnb, by simp⟩
  go_enter Tryz.func58, Tryz.ntmps58
  go_wp2
  go_loopw [3, 11] (fun v j W => ∃ i : Nat, j = .int .i64 i ∧ i ≤ 2 ∧ v = .int .i64 (((if i = 0 then [] else if i = 1 then xs else xs ++ ys).length : Nat) : Int) ∧ w = W) (fun _ v _ => 2 - (intOf v).toNat)
  case atStart => exact ⟨0, rfl, by omega, rfl, rfl⟩
  case round =>
    obtain ⟨i, rfl, hi, rfl, rfl⟩ := hrel
    rcases Nat.lt_or_ge i 2 with hi2 | hi2
    · have hd : decide (i < 2) = true := decide_eq_true hi2
      have hd' : decide ((i : Int) < 2) = true := by simp; omega
      obtain ⟨L, AL, cL, hgi, hL, hLn, hnx⟩ := hcell i hi2
      have hDn : (if i = 0 then [] else if i = 1 then xs else xs ++ ys).length ≤ 2000 := by
        split
        · simp
        · split
          · omega
          · simp; omega
      generalize (if i = 0 then [] else if i = 1 then xs else xs ++ ys) = D at *
      have hnx := Lib.hid hnx
      go_wp2
      exact ⟨⟨i + 1, by go_num, by omega, by rw [hnx.out, List.length_append]; go_num, by trivial⟩, by simp [intOf]; omega⟩
    · obtain rfl : i = 2 := by omega
      simp only [show ¬ (2 = 0) by omega, show ¬ (2 = 1) by omega, if_false] at *
      have hl : (xs ++ ys).length ≤ 2000 := by simp; omega
      generalize (xs ++ ys).length = N at *
      go_wp2_with (go_at_call 69; ((with_reducible refine (c_Grow _ _ (by omega)).mono ?_); rintro e w1 ⟨A1, c1, rfl, hO, hB⟩))
      go_loopw [6, 27] (fun v j W => ∃ (i : Nat) (A : Option Addr) (cc : Nat), j = .int .i64 i ∧ i ≤ 2 ∧ v = .slice A (if i = 0 then [] else if i = 1 then xs else xs ++ ys).length cc ∧ RuRow W w.heap.size v (if i = 0 then [] else if i = 1 then xs else xs ++ ys) ∧ Below w.heap.size w W) (fun _ v _ => 2 - (intOf v).toNat)
      case atStart => exact ⟨0, _, _, rfl, by omega, rfl, hO, hB⟩
      case round =>
        obtain ⟨i, A2, c2, rfl, hi, rfl, hO, hB⟩ := hrel
        rcases Nat.lt_or_ge i 2 with hi2 | hi2
        · have hd : decide (i < 2) = true := decide_eq_true hi2
          have hd' : decide ((i : Int) < 2) = true := by simp; omega
          obtain ⟨L, AL, cL, hgi, hL, hLn, hnx⟩ := hcell i hi2
          have hgi := cell_below hB _ _ hgi
          have hL := hL.bl hB
          have hDn : (if i = 0 then [] else if i = 1 then xs else xs ++ ys).length ≤ 2000 := by
            split
            · simp
            · split
              · omega
              · simp; omega
          generalize (if i = 0 then [] else if i = 1 then xs else xs ++ ys) = D at *
          have hnx := Lib.hid hnx
          have hsz := hB.size
          go_wp2_with (at_builtin; ((with_reducible refine app_ru rfl _ _ rfl _ w.heap.size (.slice A2 D.length c2) D rfl (.slice AL L.length cL) L rfl hL hO ?_ ?_ ?_); omega; omega; intro v' w' hO' hG'; obtain ⟨A3, c3, rfl, _⟩ := RuRow.sl hO'))
          exact ⟨⟨i + 1, A3, c3, by go_num, by omega, by rw [hnx.out, List.length_append], by rw [hnx.out]; first | exact hO' | (rw [List.length_append] at hO'; exact hO') | simpa using hO', rurow_below hB hO hG'⟩, by simp [intOf]; omega⟩
        · obtain rfl : i = 2 := by omega
          simp only [show ¬ (2 = 0) by omega, show ¬ (2 = 1) by omega, if_false] at *
          go_wp2
          go_ret
          exact ⟨_, rfl, hO, hB⟩
end Go.Proofs.YtlofelnfcdbedaaGreat.S
