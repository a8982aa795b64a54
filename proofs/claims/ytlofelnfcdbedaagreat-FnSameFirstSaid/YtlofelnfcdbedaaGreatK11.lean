/- Tables: their shape. Tables: whether one is ok. Tables: zero values, new ones. Tables: copied, put into, new. -/
import Derived.Test.YtlofelnfcdbedaaGreatK1
import Derived.BigQuiet
import Derived.Laws.AppendOwnNone
namespace Go.Proofs.YtlofelnfcdbedaaGreat.S
open Go.RowKit Go.BigFrame Go.Sort
set_option linter.unusedVariables false
set_option linter.unusedSimpArgs false

theorem c_l3Shape (k s r : Int) (A A' : Option Addr) (n c n' c' : Nat) (w : World) : Calls Tryz.prog 106 #[tabV k s r (.slice A n c) (.slice A' n' c')] w fun e w' => e = .returned (.bool (shB k s r n n')) ∧ Below w.heap.size w w' := by
  have hX := Blk.new w 88 #[.int .i64 k, .int .i64 s, .int .i64 r, .slice A n c, .slice A' n' c']
  obtain ⟨x0, x1, x2, x3, x4⟩ := hX.cells5
  have hB0 := below_new w (.cells #[.int .i64 k, .int .i64 s, .int .i64 r, .slice A n c, .slice A' n' c'] 88)
  unfold shB
  rcases Bool.eq_false_or_eq_true (inB k 1 2) with h1 | h1 <;> rcases Bool.eq_false_or_eq_true (inB s 1 8) with h2 | h2 <;> rcases Bool.eq_false_or_eq_true (inB r 1 8) with h3 | h3 <;> rw [h1, h2, h3]
  all_goals
    go_enter Tryz.func106, Tryz.ntmps106
    go_wp2_with (first | (go_at_call 46; refine (c_l1In _ _ _ _).mono ?_; rintro e w' ⟨rfl, rfl⟩) | fail)
    all_goals
      go_ret
      refine ⟨?_, hB0⟩
      first
        | rfl
        | (have e : n = n' := by omega
           subst e
           simp)
        | (have e : ¬ n = n' := fun e => by subst e; simp_all
           simp [e])

theorem c_l3At (k s r key : Int) (A : Option Addr) (n c : Nat) (vv : Value) (hv : vv.oneCell' = true) (w : World) (h : AtP isI w A n 1) (hn : n ≤ 1000) : Calls Tryz.prog 107 #[tabV k s r (.slice A n c) vv, .int .i64 key] w fun e w' => ∃ x : Int, e = .returned (.int .i64 x) ∧ -1 ≤ x ∧ x < n ∧ Below w.heap.size w w' := by
  have hX := Blk.new w 88 #[.int .i64 k, .int .i64 s, .int .i64 r, .slice A n c, vv]
  obtain ⟨x0, x1, x2, x3, x4⟩ := hX.cells5
  have hB0 := below_new w (.cells #[.int .i64 k, .int .i64 s, .int .i64 r, .slice A n c, vv] 88)
  have h := h.bl hB0
  go_enter Tryz.func107, Tryz.ntmps107
  go_wp2
  go_loop [5] (fun i => ∃ j : Nat, i = .int .i64 j ∧ j ≤ n) (fun i => n - (intOf i).toNat)
  case atStart => exact ⟨0, rfl, by omega⟩
  case round =>
    obtain ⟨j, rfl, hj⟩ := hrel
    by_cases hk : j < n
    · have hd : decide (j < n) = true := decide_eq_true hk
      obtain ⟨ad, rfl, hx⟩ := h (by omega)
      obtain ⟨u, ⟨y, rfl⟩, hc⟩ := hx j (by omega)
      clear hx
      go_wp2
      · go_ret
        exact ⟨_, rfl, by omega, by omega, hB0⟩
      · exact ⟨⟨j + 1, by go_num, by omega⟩, by simp [intOf]; omega⟩
    · have hd : decide (j < n) = false := decide_eq_false hk
      go_wp2
      go_ret
      exact ⟨_, rfl, by omega, by omega, hB0⟩
end Go.Proofs.YtlofelnfcdbedaaGreat.S
namespace Go.Proofs.YtlofelnfcdbedaaGreat.S
open Go.RowKit Go.BigFrame Go.Sort
set_option linter.unusedVariables false
set_option linter.unusedSimpArgs false

set_option maxRecDepth 100000 in
set_option maxHeartbeats 2000000 in
theorem c_l3Ok (k s r : Int) (A A' : Option Addr) (n c n' c' K : Nat) (w : World) (h : AtP isI w A n 1) (h' : AtP (isS K) w A' n' 1) (hn : n ≤ 1000) (hK : K ≤ 1000) : Calls Tryz.prog 80 #[tabV k s r (.slice A n c) (.slice A' n' c')] w fun e w' => ∃ x : Bool, e = .returned (.bool x) ∧ (x = true → shB k s r n n' = true) ∧ Below w.heap.size w w' := by
  have hX := Blk.new w 88 #[.int .i64 k, .int .i64 s, .int .i64 r, .slice A n c, .slice A' n' c']
  obtain ⟨x0, x1, x2, x3, x4⟩ := hX.cells5
  have hB0 := below_new w (.cells #[.int .i64 k, .int .i64 s, .int .i64 r, .slice A n c, .slice A' n' c'] 88)
  have h := h.bl hB0
  have h' := h'.bl hB0
  have hr0 : Below (w.alloc (.cells #[.int .i64 k, .int .i64 s, .int .i64 r, .slice A n c, .slice A' n' c'] 88)).heap.size (w.alloc (.cells #[.int .i64 k, .int .i64 s, .int .i64 r, .slice A n c, .slice A' n' c'] 88)) (w.alloc (.cells #[.int .i64 k, .int .i64 s, .int .i64 r, .slice A n c, .slice A' n' c'] 88)) := Below.refl _ _
  rcases Bool.eq_false_or_eq_true (k == 1) with hkb | hkb
  all_goals
    go_enter Tryz.func80, Tryz.ntmps80
    go_upto_region 1 with fail
    go_cut [20] (fun v W => ∃ x : Bool, v = .bool x ∧ (x = false → shB k s r n n' = true) ∧ Below (w.alloc (.cells #[.int .i64 k, .int .i64 s, .int .i64 r, .slice A n c, .slice A' n' c'] 88)).heap.size (w.alloc (.cells #[.int .i64 k, .int .i64 s, .int .i64 r, .slice A n c, .slice A' n' c'] 88)) W)
    case first =>
      go_wp2_with (go_at_call 106; (with_reducible refine (c_l3Shape _ _ _ _ _ _ _ _ _ _).mono ?_); rintro e w1 ⟨rfl, hb1⟩; have hX1 := hX.bl hb1; obtain ⟨x0, x1, x2, x3, x4⟩ := hX1.cells5)
      all_goals
        go_meet
        first
          | exact ⟨_, rfl, fun _ => by assumption, hb1⟩
          | exact ⟨_, rfl, fun e => (by cases e), hb1⟩
    case rest =>
      obtain ⟨x, rfl, hsh, hr1⟩ := hcut
      have hX1 := hX.bl hr1
      have h1 := h.bl hr1
      have h1' := h'.bl hr1
      obtain ⟨x0, x1, x2, x3, x4⟩ := hX1.cells5
      cases x with
      | true =>
        go_wp2
        go_ret
        exact ⟨_, rfl, fun e => (by cases e), below_step (w := w) hB0 hr1⟩
      | false =>
        have hs := hsh rfl
        have hs' := Lib.hid hs
        have hnn := shB_le hs
        clear hs
        go_wp2
        go_loopw [3] (fun i W => ∃ j : Nat, i = .int .i64 j ∧ j ≤ n ∧ Below (w.alloc (.cells #[.int .i64 k, .int .i64 s, .int .i64 r, .slice A n c, .slice A' n' c'] 88)).heap.size (w.alloc (.cells #[.int .i64 k, .int .i64 s, .int .i64 r, .slice A n c, .slice A' n' c'] 88)) W) (fun i _ => n - (intOf i).toNat)
        case atStart => exact ⟨0, rfl, by omega, hr1⟩
        case round =>
          obtain ⟨j, rfl, hj, hr2⟩ := hrel
          have hX2 := hX.bl hr2
          obtain ⟨x0, x1, x2, x3, x4⟩ := hX2.cells5
          by_cases hk : j < n
          · have hd : decide (j < n) = true := decide_eq_true hk
            have hd' : j < n' := by omega
            obtain ⟨ad, rfl, hx⟩ := (h.bl hr2) (by omega)
            obtain ⟨ad', rfl, hx'⟩ := (h'.bl hr2) (by omega)
            obtain ⟨u, ⟨y, rfl⟩, hc⟩ := hx j (by omega)
            obtain ⟨u', ⟨z, rfl, hz⟩, hc'⟩ := hx' j (by omega)
            have hx := Lib.hid hx
            clear hx'
            go_upto_region 6 with fail
            go_cut [60] (fun v W => ∃ x : Bool, v = .bool x ∧ Below wr.heap.size wr W)
            case first =>
              rcases Bool.eq_false_or_eq_true ((z.size : Int) != s) with b1 | b1 <;> rcases Bool.eq_false_or_eq_true (inB y 0 4294967295) with b2 | b2 <;> rcases Bool.eq_false_or_eq_true (y != (j : Int)) with b3 | b3
              all_goals
                go_quiet ((first | (go_at_call 41; exact Calls.quiet_of_same ((c_l2Top _).mono fun _ _ h => ⟨h.1, h.2.symm⟩)) | (go_at_call 46; exact Calls.quiet_of_same ((c_l1In _ _ _ _).mono fun _ _ h => ⟨h.1, h.2.symm⟩)) | fail))
                go_wp2_with fail
                go_meet
                exact ⟨_, rfl, below_drewN (Below.refl _ _) _⟩
            case rest =>
              obtain ⟨x, rfl, hr3⟩ := hcut
              have hr4 := below_step hr2 hr3
              have hX4 := hX.bl hr4
              obtain ⟨x0, x1, x2, x3, x4⟩ := hX4.cells5
              cases x with
              | true =>
                go_wp2
                go_ret
                exact ⟨_, rfl, fun e => (by cases e), below_step (w := w) hB0 hr4⟩
              | false =>
                go_wp2
                go_loopw [4] (fun i W => ∃ m : Nat, i = .int .i64 m ∧ m ≤ j ∧ Below wc.heap.size wc W) (fun i _ => j - (intOf i).toNat)
                case atStart => exact ⟨0, rfl, by omega, Below.refl _ _⟩
                case round =>
                  obtain ⟨m, rfl, hm, hr5⟩ := hrel
                  have hr6 := below_step hr4 hr5
                  have hX6 := hX.bl hr6
                  obtain ⟨x0, x1, x2, x3, x4⟩ := hX6.cells5
                  by_cases hq : m < j
                  · have hq' : decide (m < j) = true := decide_eq_true hq
                    have hmn : m < n := by omega
                    obtain ⟨v, ⟨y2, rfl⟩, hc2⟩ := hx.out m (by omega)
                    have hc2 := cell_below (below_step hr3 hr5) _ _ hc2
                    have hc1 := cell_below (below_step hr3 hr5) _ _ hc
                    rcases Bool.eq_false_or_eq_true (y2 == y) with b4 | b4
                    all_goals
                      go_wp2
                      go_quiet (fail)
                      go_wp2
                      first
                        | (go_ret; exact ⟨_, rfl, fun e => (by cases e), below_drewN (below_step (w := w) hB0 hr6) _⟩)
                        | exact ⟨⟨m + 1, by go_num, by omega, below_drewN hr5 _⟩, by simp [intOf]; omega⟩
                  · have hq' : decide (m < j) = false := decide_eq_false hq
                    go_wp2
                    exact ⟨⟨j + 1, by go_num, by omega, hr6⟩, by simp [intOf]; omega⟩
          · have hd : decide (j < n) = false := decide_eq_false hk
            go_wp2
            go_ret
            exact ⟨_, rfl, fun _ => hs'.out, below_step (w := w) hB0 hr2⟩
end Go.Proofs.YtlofelnfcdbedaaGreat.S
namespace Go.Proofs.YtlofelnfcdbedaaGreat.S
open Go.RowKit Go.BigFrame Go.Sort
set_option linter.unusedVariables false
set_option linter.unusedSimpArgs false

set_option maxRecDepth 100000 in
theorem c_l3Zero (N : Nat) (w : World) (h1 : N ≤ 1000) : Calls Tryz.prog 105 #[.int .i64 N] w fun e w' => ∃ s : ByteArray, e = .returned (.string s) ∧ s.size = N ∧ Below w.heap.size w w' := by
  obtain ⟨i, hi, hz, h2, h3⟩ := info_parts info_byte
  have H := Lib.hid (And.intro hi (And.intro hz (And.intro h2 h3)))
  have b2 : i.bytes * N ≤ 281474976710656 := by rw [h3]; omega
  have b3 : N ≤ maxLen := by unfold maxLen; omega
  have b2' := Lib.hid b2
  have b3' := Lib.hid b3
  clear hi hz h2 h3 b2 b3
  go_enter Tryz.func105, Tryz.ntmps105
  go_wp2_with ((refine wpList_make_full w rfl _ _ 22 rfl w.heap.size 5 i (.int .u8 0) 1 elt_byte.und H.out.1 H.out.2.1 H.out.2.2.1 .i64 .i64 N N N rfl rfl rfl rfl b2'.out b3'.out (Nat.le_refl _) ?_; intro w1 hO1 hG1; obtain ⟨s, hs, hconv⟩ := text_of (OwnP.snoc (xs := []) (cs := madeCells (Value.cells (.int .u8 0)) (N * 1)) hO1 (by simp) (made_bytes N))))
  go_ret
  exact ⟨s, rfl, hs, below_gr hG1⟩
end Go.Proofs.YtlofelnfcdbedaaGreat.S
namespace Go.Proofs.YtlofelnfcdbedaaGreat.S
open Go.RowKit Go.BigFrame Go.Sort
set_option linter.unusedVariables false
set_option linter.unusedSimpArgs false

set_option maxHeartbeats 1000000 in
theorem c_l3Copy (k s r : Int) (A A' : Option Addr) (n c n' c' : Nat) (w : World) (h : OwnI w 0 3 1 (.slice A n c) n) (h' : OwnP (isS 1000) w 0 9 1 (.slice A' n' c') n') (hn : n ≤ 1000) (hn' : n' ≤ 1000) : Calls Tryz.prog 81 #[tabV k s r (.slice A n c) (.slice A' n' c')] w fun e w' => ∃ v, e = .returned v ∧ TabOut w k s r n n' v w' := by
  have hX := Blk.new w 88 (tabC k s r (.slice A n c) (.slice A' n' c'))
  obtain ⟨x0, x1, x2, x3, x4⟩ := hX.cells5
  have hX1 : Blk (((w.alloc (.cells (tabC k s r (.slice A n c) (.slice A' n' c')) 88)).alloc (.cells #[.int .i64 0, .int .i64 0, .int .i64 0, .slice none 0 0, .slice none 0 0] 88)).alloc (.cells (tabC k s r (.slice A n c) (.slice A' n' c')) 88)) w.heap.size 88 _ := (hX.alloc _).alloc _
  have hX2 : Blk (((w.alloc (.cells (tabC k s r (.slice A n c) (.slice A' n' c')) 88)).alloc (.cells #[.int .i64 0, .int .i64 0, .int .i64 0, .slice none 0 0, .slice none 0 0] 88)).alloc (.cells (tabC k s r (.slice A n c) (.slice A' n' c')) 88)) (w.heap.size + 1) 88 #[.int .i64 0, .int .i64 0, .int .i64 0, .slice none 0 0, .slice none 0 0] := (Blk.new' (by simp) _ _).alloc _
  have hX3 : Blk (((w.alloc (.cells (tabC k s r (.slice A n c) (.slice A' n' c')) 88)).alloc (.cells #[.int .i64 0, .int .i64 0, .int .i64 0, .slice none 0 0, .slice none 0 0] 88)).alloc (.cells (tabC k s r (.slice A n c) (.slice A' n' c')) 88)) (w.heap.size + 1 + 1) 88 (tabC k s r (.slice A n c) (.slice A' n' c')) := Blk.new' (by simp) _ _
  have hB := below_alloc (below_alloc (below_new w (.cells (tabC k s r (.slice A n c) (.slice A' n' c')) 88)) (.cells #[.int .i64 0, .int .i64 0, .int .i64 0, .slice none 0 0, .slice none 0 0] 88)) (.cells (tabC k s r (.slice A n c) (.slice A' n' c')) 88)
  have hlt' := fun k hk => (h'.lt k hk).2
  have h := ((h.alloc (.cells (tabC k s r (.slice A n c) (.slice A' n' c')) 88)).alloc (.cells #[.int .i64 0, .int .i64 0, .int .i64 0, .slice none 0 0, .slice none 0 0] 88)).alloc (.cells (tabC k s r (.slice A n c) (.slice A' n' c')) 88)
  have h' := ((h'.alloc (.cells (tabC k s r (.slice A n c) (.slice A' n' c')) 88)).alloc (.cells #[.int .i64 0, .int .i64 0, .int .i64 0, .slice none 0 0, .slice none 0 0] 88)).alloc (.cells (tabC k s r (.slice A n c) (.slice A' n' c')) 88)
  go_enter Tryz.func81, Tryz.ntmps81
  go_wp2_with (first | (at_builtin; ((with_reducible refine app_two isI isI_one elt_int rfl _ _ rfl _ w.heap.size (.slice (some ⟨w.heap.size + 1 + 1 + 1, 0, none⟩) 0 0) 0 rfl 0 (.slice A n c) n rfl (h.alloc _) (OwnP.empty' isI _ _ _ _ _ hB.size ?_) ?_ ?_ ?_ ?_); (focus first | omega | (simp; done) | (simp; omega) | (simp [Value.ownBlock]; done) | (simp [Value.ownBlock]; omega)); (focus first | omega | (simp; done) | (simp; omega) | (simp [Value.ownBlock]; done) | (simp [Value.ownBlock]; omega)); (focus first | omega | (simp; done) | (simp; omega) | (simp [Value.ownBlock]; done) | (simp [Value.ownBlock]; omega)); (focus first | omega | (simp; done) | (simp; omega) | (simp [Value.ownBlock]; done) | (simp [Value.ownBlock]; omega)); intro v1 w1 hO1 hG1; rw [Nat.zero_add] at hO1; obtain ⟨A1, c1, rfl, _⟩ := hO1.shape; have hX1 := (hX1.alloc _).own hG1 (by (focus first | omega | (simp; done) | (simp; omega) | (simp [Value.ownBlock]; done) | (simp [Value.ownBlock]; omega))); have hX2 := (hX2.alloc _).own hG1 (by (focus first | omega | (simp; done) | (simp; omega) | (simp [Value.ownBlock]; done) | (simp [Value.ownBlock]; omega))); have hX3 := (hX3.alloc _).own hG1 (by (focus first | omega | (simp; done) | (simp; omega) | (simp [Value.ownBlock]; done) | (simp [Value.ownBlock]; omega))); obtain ⟨x0, x1, x2, x3, x4⟩ := hX1.cells5; obtain ⟨y0, y1, y2, y3, y4⟩ := hX3.cells5; have yf := hX3.frozen; have hs1 := hX3.lt; have h' := (h'.alloc _).own hG1 hlt' (by (focus first | omega | (simp; done) | (simp; omega) | (simp [Value.ownBlock]; done) | (simp [Value.ownBlock]; omega))); have hB := below_own (below_alloc hB _) hG1 (by (focus first | omega | (simp; done) | (simp; omega) | (simp [Value.ownBlock]; done) | (simp [Value.ownBlock]; omega))); have hO1 := hO1.set (q := ⟨w.heap.size + 1 + 1, 3, none⟩) (.slice A1 n c1) (hO1.notBlk hX3 (by decide)); have h' := h'.set (q := ⟨w.heap.size + 1 + 1, 3, none⟩) (.slice A1 n c1) (h'.notBlk hX3 (by decide)); have hX1 := hX1.far (p := ⟨w.heap.size + 1 + 1, 3, none⟩) (by (focus first | omega | (simp; done) | (simp; omega) | (simp [Value.ownBlock]; done) | (simp [Value.ownBlock]; omega))) (.slice A1 n c1); obtain ⟨p0, p1, p2, p3, p4⟩ := hX1.cells5; obtain ⟨q0, q1, q2, q3, q4⟩ := (hX1.alloc (.cells #[] 9)).cells5; have hX2 := hX2.far (p := ⟨w.heap.size + 1 + 1, 3, none⟩) (by (focus first | omega | (simp; done) | (simp; omega) | (simp [Value.ownBlock]; done) | (simp [Value.ownBlock]; omega))) (.slice A1 n c1); have hX3 := hX3.set_ 3 (.slice A1 n c1); have hB := below_set hB (show w.heap.size ≤ (⟨w.heap.size + 1 + 1, 3, none⟩ : Addr).block by (focus first | omega | (simp; done) | (simp; omega) | (simp [Value.ownBlock]; done) | (simp [Value.ownBlock]; omega))) (.slice A1 n c1))) | (at_builtin; ((with_reducible refine app_two (isS 1000) isS_one elt_str rfl _ _ rfl _ w.heap.size (.slice (some ⟨w1.heap.size, 0, none⟩) 0 0) 0 rfl 0 (.slice A' n' c') n' rfl (h'.alloc _) (OwnP.empty' (isS 1000) _ _ _ _ _ hB.size ?_) ?_ ?_ ?_ ?_); (focus first | omega | (simp; done) | (simp; omega) | (simp [Value.ownBlock]; done) | (simp [Value.ownBlock]; omega)); (focus first | omega | (simp; done) | (simp; omega) | (simp [Value.ownBlock]; done) | (simp [Value.ownBlock]; omega)); (focus first | omega | (simp; done) | (simp; omega) | (simp [Value.ownBlock]; done) | (simp [Value.ownBlock]; omega)); (focus first | omega | (simp; done) | (simp; omega) | (simp [Value.ownBlock]; done) | (simp [Value.ownBlock]; omega)); intro v2 w2 hO2 hG2; rw [Nat.zero_add] at hO2; obtain ⟨A2, c2, rfl, _⟩ := hO2.shape; have hX2 := (hX2.alloc _).own (r := w1.heap.size) hG2 (by omega); have hX3 := (hX3.alloc _).own (r := w1.heap.size) hG2 (by omega); obtain ⟨y0, y1, y2, y3, y4⟩ := hX3.cells5; have yf := hX3.frozen; have hO1 := (hO1.alloc _).own (r := w1.heap.size) hG2 (fun k hk => (hO1.lt k hk).2) (by simp [World.setCell]); have hB := below_own (r := w1.heap.size) (below_alloc hB _) hG2 (by omega); have hO1 := hO1.set (q := ⟨w.heap.size + 1 + 1, 4, none⟩) (.slice A2 n' c2) (hO1.notBlk hX3 (by decide)); have hO2 := hO2.set (q := ⟨w.heap.size + 1 + 1, 4, none⟩) (.slice A2 n' c2) (hO2.notBlk hX3 (by decide)); have hX2 := hX2.far (p := ⟨w.heap.size + 1 + 1, 4, none⟩) (by (focus first | omega | (simp; done) | (simp; omega) | (simp [Value.ownBlock]; done) | (simp [Value.ownBlock]; omega))) (.slice A2 n' c2); obtain ⟨z0, z1, z2, z3, z4⟩ := hX2.cells5; have zf := hX2.frozen; have hB := below_set hB (show w.heap.size ≤ (⟨w.heap.size + 1 + 1, 4, none⟩ : Addr).block by (focus first | omega | (simp; done) | (simp; omega) | (simp [Value.ownBlock]; done) | (simp [Value.ownBlock]; omega))) (.slice A2 n' c2))))
  exact bodyPost_ret (res_tab rfl _ rfl (hX2.five _ _ _ _ _)) rfl ⟨_, rfl, TabOut.mk' (hO1.five (hO1.notBlk hX2 (by decide)) _ _ _ _ _) (hO2.five (hO2.notBlk hX2 (by decide)) _ _ _ _ _) (below_five hB (by omega) _ _ _ _ _)⟩
end Go.Proofs.YtlofelnfcdbedaaGreat.S
