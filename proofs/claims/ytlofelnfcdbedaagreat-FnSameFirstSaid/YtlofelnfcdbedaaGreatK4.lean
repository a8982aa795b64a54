/- The reference's words and numbers in texts. The reference's reading of an op's words: it answers. -/
import Derived.Test.YtlofelnfcdbedaaGreatK1
import Derived.RegionCalls
import Derived.Lib.ItoaNum
import Derived.WalkSpells
import Derived.Deep.RegionWith
namespace Go.Proofs.YtlofelnfcdbedaaGreat.S
open Go.RowKit Go.BigFrame
set_option linter.unusedVariables false
set_option linter.unusedSimpArgs false

theorem c_l1Alu (n : Int) (w : World) : Calls Tryz.prog 98 #[.int .i64 n] w fun e w' => e = .returned (.bool (inB n 1 11)) ∧ w = w' := by
  go_enter Tryz.func98, Tryz.ntmps98
  go_wp2_with (first | (go_at_call 46; refine (c_l1In _ _ _ _).mono ?_; rintro e w' ⟨rfl, rfl⟩) | fail)
  go_ret
  exact ⟨rfl, rfl⟩
theorem c_l1Jump (n : Int) (w : World) : Calls Tryz.prog 99 #[.int .i64 n] w fun e w' => e = .returned (.bool (inB n 12 15)) ∧ w = w' := by
  go_enter Tryz.func99, Tryz.ntmps99
  go_wp2_with (first | (go_at_call 46; refine (c_l1In _ _ _ _).mono ?_; rintro e w' ⟨rfl, rfl⟩) | fail)
  go_ret
  exact ⟨rfl, rfl⟩

/-! ### Texts -/
set_option maxRecDepth 100000 in
theorem c_l1Dec0 (n : Nat) (w : World) (h : n < 10) : Calls Tryz.prog 97 #[.int .i64 n] w (DecOk n w) := by
  have hcv := conv_new (P := Tryz.prog) 22 9 5 Tryz.underlying22 Tryz.underlying5 Tryz.underlying9
  go_enter Tryz.func97, Tryz.ntmps97
  go_wp2
  go_ret
  refine ⟨?_, (Below.refl _ _).alloc (Nat.le_refl _) _⟩
  rw [itoa_nat, dig_small h]
  rfl
set_option maxRecDepth 100000 in
set_option maxHeartbeats 1000000 in
theorem c_l1Dec1 (n d m : Nat) (hdm : n = 10 * d + m) (hm : m < 10) (w : World) (ih : ∀ W, Calls Tryz.prog 97 #[.int .i64 d] W (DecOk d W)) (h : 10 ≤ n) (h' : n ≤ 1000000000000000000) : Calls Tryz.prog 97 #[.int .i64 n] w (DecOk n w) := by
  have hcv := conv_new (P := Tryz.prog) 22 9 5 Tryz.underlying22 Tryz.underlying5 Tryz.underlying9
  have hcd := conv_new_d (P := Tryz.prog) 22 9 5 Tryz.underlying22 Tryz.underlying5 Tryz.underlying9
  have IH := Lib.hid ih
  clear ih
  have e1 : IntKind.i64.wrap ((n : Int) / 10) = (d : Int) := by rw [IntKind.wrap_i64]; omega
  have e2 : (n : Int).tmod 10 = (m : Int) := by rw [Int.tmod_eq_emod_of_nonneg (by omega)]; omega
  have e3 : IntKind.i64.wrap (48 + (m : Int)) = 48 + (m : Int) := by rw [IntKind.wrap_i64]; omega
  have e4 : IntKind.u8.wrap (48 + (m : Int)) = 48 + (m : Int) := by show (48 + (m : Int)) % 256 = _; omega
  have s1 : (bs (Lib.itoa (d : Int))).size ≤ 19 := by rw [bs_size, itoa_nat]; exact dig_len 18 d (by omega)
  have s2 : ∀ c, (bs [c]).size = 1 := fun _ => rfl
  have hcw := fun W => conv_one (P := Tryz.prog) 22 9 5 Tryz.underlying22 Tryz.underlying5 Tryz.underlying9 W w.heap.size 1 (48 + (m : Int))
  have HD := Lib.hid hdm
  clear hdm
  go_enter Tryz.func97, Tryz.ntmps97
  go_wp2_with fail
  go_region_with (go_at_call 97; (with_reducible refine (IH.out _).mono ?_); rintro e w' ⟨rfl, hb⟩; have hq := hb.cell (p := ⟨w.heap.size, 0, none⟩); simp at hq)
  all_goals
    go_wp2
    go_ret
    refine ⟨congrArg (fun s => Ending.returned (.string s)) (dec_join (n := n) (d := d) (m := m) HD.out hm h), ?_⟩
    first
      | exact ((Below.refl _ _).drew.trans (hb.mono (Nat.le_refl _))).alloc hb.size _
      | exact (((Below.refl _ _).alloc (Nat.le_refl _) _).drew).trans (hb.mono (by simp))
/-- The decimals of a number. -/
theorem c_l1Dec_nat (n : Nat) : ∀ (w : World), n ≤ 1000000000000000000 → Calls Tryz.prog 97 #[.int .i64 n] w (DecOk n w) := by
  induction n using Nat.strongRecOn with
  | _ n ih =>
    intro w hn
    by_cases h : n < 10
    · exact c_l1Dec0 n w h
    · exact c_l1Dec1 n (n / 10) (n % 10) (by omega) (by omega) w (fun W => ih (n / 10) (by omega) W (by omega)) (by omega) hn
set_option maxRecDepth 100000 in
theorem c_l1Dec (n : Int) (w : World) (h1 : -1000000000000000000 ≤ n) (h2 : n ≤ 1000000000000000000) : Calls Tryz.prog 97 #[.int .i64 n] w (DecOk n w) := by
  rcases Int.lt_or_le n 0 with h | h
  · obtain ⟨m, rfl⟩ : ∃ m : Nat, n = -(m : Int) := ⟨n.natAbs, by omega⟩
    have IH := Lib.hid (c_l1Dec_nat m w (by omega))
    have s1 : (bs (Lib.itoa (m : Int))).size ≤ 19 := by rw [bs_size, itoa_nat]; exact dig_len 18 m (by omega)
    have hneg : - -(m : Int) = (m : Int) := by omega
    go_enter Tryz.func97, Tryz.ntmps97
    go_wp2_with (go_at_call 97; (with_reducible refine (IH.out).mono ?_); rintro e w' ⟨rfl, hb⟩)
    go_ret
    refine ⟨congrArg (fun s => Ending.returned (.string s)) (dec_neg (by omega)), hb⟩
  · obtain ⟨m, rfl⟩ := Int.eq_ofNat_of_zero_le h
    exact c_l1Dec_nat m w (by omega)
end Go.Proofs.YtlofelnfcdbedaaGreat.S
namespace Go.Proofs.YtlofelnfcdbedaaGreat.S
open Go.RowKit Go.BigFrame
set_option linter.unusedVariables false
set_option linter.unusedSimpArgs false

set_option maxRecDepth 100000 in
theorem c_l1Num (s : ByteArray) (w : World) (hs : s.size ≤ 140737488355328) : Calls Tryz.prog 115 #[.string s] w (SomeInt (-1) 99999999999 w) := by
  go_enter Tryz.func115, Tryz.ntmps115
  go_wp2
  go_loop [3, 4] (fun n i => ∃ (k : Nat) (x : Int), i = .int .i64 k ∧ n = .int .i64 x ∧ k ≤ s.size ∧ 0 ≤ x ∧ k ≤ 10 ∧ x < ((10 ^ k : Nat) : Int)) (fun _ i => s.size - (intOf i).toNat)
  case atStart => exact ⟨0, 0, rfl, rfl, by omega, by omega, by omega, by omega⟩
  case round =>
    obtain ⟨k, x, rfl, rfl, hk, h0, h1, h2⟩ := hrel
    have hq := ten_le h1
    have HS := Lib.hid (show (10 : Nat) ^ (k + 1) = 10 ^ k * 10 from Nat.pow_succ ..)
    obtain ⟨q, hqq⟩ : ∃ q : Nat, q = 10 ^ k := ⟨_, rfl⟩
    rw [← hqq] at h2 hq HS
    clear hqq
    by_cases hlt : k < s.size
    · have hd : decide (k < s.size) = true := decide_eq_true hlt
      have hb := (s[k]'hlt).toNat_lt
      go_wp2
      · go_ret
        exact ⟨_, rfl, by omega, by omega, rfl⟩
      · go_round
        case rel => exact ⟨k + 1, _, by go_num, rfl, by omega, by omega, by omega, by rw [HS.out]; omega⟩
        case measure => simp [intOf]; omega
      all_goals
        go_ret
        exact ⟨_, rfl, by omega, by omega, rfl⟩
    · have hd : decide (k < s.size) = false := decide_eq_false hlt
      go_wp2
      all_goals
        go_ret
        exact ⟨_, rfl, by omega, by omega, rfl⟩

set_option maxRecDepth 100000 in
theorem c_l1Find (A : Option Addr) (n c K : Nat) (s : ByteArray) (w : World) (h : AtP (isS K) w A n 1) (hn : n ≤ 1000000) : Calls Tryz.prog 95 #[.slice A n c, .string s] w (SomeInt (-1) ((n : Int) - 1) w) := by
  go_enter Tryz.func95, Tryz.ntmps95
  go_wp2
  go_loop [5] (fun i => ∃ (k : Nat), i = .int .i64 k ∧ k ≤ n) (fun i => n - (intOf i).toNat)
  case atStart => exact ⟨0, rfl, by omega⟩
  case round =>
    obtain ⟨k, rfl, hk⟩ := hrel
    by_cases hlt : k < n
    · have hd : decide (k < n) = true := decide_eq_true hlt
      obtain ⟨ad, rfl, hc⟩ := h (by omega)
      obtain ⟨u, ⟨x, rfl, hx⟩, hu⟩ := hc k (by omega)
      clear hc h
      go_wp2
      · go_ret
        exact ⟨_, rfl, by omega, by omega, rfl⟩
      · go_round
        case rel => exact ⟨k + 1, by go_num, by omega⟩
        case measure => simp [intOf]; omega
    · have hd : decide (k < n) = false := decide_eq_false hlt
      go_wp2
      go_ret
      exact ⟨_, rfl, by omega, by omega, rfl⟩

theorem c_l1Words (w : World) : Calls Tryz.prog 96 #[] w (Words 21 w) := by
  go_enter Tryz.func96, Tryz.ntmps96
  go_wp2
  go_ret
  exact ⟨_, _, rfl, OwnP.lit _ w _ _ 1 21 _ (Nat.le_refl _) (by omega) rfl (isS_of (by decide)), (Below.refl _ _).alloc (Nat.le_refl _) _⟩
theorem c_l1Calls (w : World) : Calls Tryz.prog 102 #[] w (Words 7 w) := by
  go_enter Tryz.func102, Tryz.ntmps102
  go_wp2
  go_ret
  exact ⟨_, _, rfl, OwnP.lit _ w _ _ 1 7 _ (Nat.le_refl _) (by omega) rfl (isS_of (by decide)), (Below.refl _ _).alloc (Nat.le_refl _) _⟩

set_option maxRecDepth 100000 in
theorem c_l1Signed (s : ByteArray) (w : World) (hs : s.size ≤ 1000000) : Calls Tryz.prog 101 #[.string s] w (SomeInt (-99999999999) 99999999999 w) := by
  by_cases h1 : 1 < s.size
  all_goals
    first | have hd : decide (1 < s.size) = true := decide_eq_true h1 | have hd : decide (1 < s.size) = false := decide_eq_false h1
    go_enter Tryz.func101, Tryz.ntmps101
    go_wp2_with (first | (go_at_call 115; (with_reducible refine (c_l1Num _ _ ?_).mono ?_); (first | omega | (simp; omega)); rintro e w' ⟨r, rfl, hr0, hr1, rfl⟩) | fail)
    all_goals
      go_ret
      exact ⟨_, rfl, by omega, by omega, rfl⟩

set_option maxRecDepth 100000 in
theorem c_l1ReadReg (s : ByteArray) (w : World) (hs : s.size ≤ 1000000) : Calls Tryz.prog 100 #[.string s] w (SomeTwo (-1) 99999999999 w) := by
  by_cases h1 : 1 < s.size
  all_goals
    first | have hd : decide (1 < s.size) = true := decide_eq_true h1 | have hd : decide (1 < s.size) = false := decide_eq_false h1
    go_enter Tryz.func100, Tryz.ntmps100
    go_wp2_with (first | (go_at_call 115; (with_reducible refine (c_l1Num _ _ ?_).mono ?_); (first | omega | (simp; omega)); rintro e w' ⟨r, rfl, hr0, hr1, rfl⟩) | fail)
    all_goals
      go_ret2
      exact ⟨_, _, rfl, by omega, by omega, by omega, by omega, rfl⟩

/-! ### Ops -/
set_option maxRecDepth 100000 in
set_option maxHeartbeats 2000000 in
theorem c_l1Bare (op dst src off imm sz : Int) (w : World) : Calls Tryz.prog 103 #[.agg #[.int .i64 op, .int .i64 dst, .int .i64 src, .int .i64 off, .int .i64 imm, .int .i64 sz]] w fun e w' => e = .returned (.bool (bareB ⟨op, dst, src, off, imm, sz⟩)) ∧ Below w.heap.size w w' := by
  go_enter Tryz.func103, Tryz.ntmps103
  go_wp2_with (first | (go_at_call 98; (with_reducible refine (c_l1Alu _ _).mono ?_); rintro e w' ⟨rfl, rfl⟩) | (go_at_call 99; (with_reducible refine (c_l1Jump _ _).mono ?_); rintro e w' ⟨rfl, rfl⟩) | (go_at_call 46; refine (c_l1In _ _ _ _).mono ?_; rintro e w' ⟨rfl, rfl⟩) | fail)
  all_goals
    go_ret
    refine ⟨?_, (Below.refl _ _).alloc (Nat.le_refl _) _⟩
    refine ret_bool ?_
    first | (simp [bareB, eiB, szB, *]; done) | (simp [bareB, eiB, szB, *]; intros; omega)

end Go.Proofs.YtlofelnfcdbedaaGreat.S
