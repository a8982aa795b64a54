/- The words of these proofs, and contracts of the reference's small functions over numbers. The reader of drawn bytes: what its calls hand back, and what they leave. What these proofs say of memory: blocks, rows, frames. -/
import Derived.Test.YtlofelnfcdbedaaGreatProg
import Derived.WalkKit
import Derived.LoopTactic
import Derived.Deep.QuietTactic
import Derived.BigQuiet
import Derived.Below
import Derived.Deep.DeepCutAuto
import Derived.Deep.CutBlock
import Derived.Maps.AppendAt
import Derived.Laws.MakeOwn
import Derived.Laws.Rows
import Derived.Lib.Hide
import Derived.Outline
import Derived.Laws.BitsLemmas
import Derived.Laws.BitsAllLaws
import Derived.Deep.RegionHeld3
import Derived.Deep.AppendLies
import Derived.RegionCalls
import Derived.Lib.ItoaNum
import Derived.WalkSpells
import Derived.Deep.RegionWith
import Derived.Lib.QuietBelow
import Derived.Deep.RegionLaw
import Derived.Laws.AppendOwnNone
namespace Go.Proofs.YtlofelnfcdbedaaGreat.S
open Go.RowKit Go.BigFrame
set_option linter.unusedVariables false
set_option linter.unusedSimpArgs false

/-! ### Numbers -/
theorem ret_int {k : IntKind} {a b : Int} (h : a = b) : Ending.returned (.int k a) = .returned (.int k b) := by rw [h]
theorem ret_bool {a b : Bool} (h : a = b) : Ending.returned (.bool a) = .returned (.bool b) := by rw [h]
/-! Bits of numbers that are not below 0 -/
theorem ofInt64_nat (a : Nat) (ha : a < 9223372036854775808) : (BitVec.ofInt 64 (a : Int)).toNat = a := by
  rw [BitVec.ofInt_natCast, BitVec.toNat_ofNat]
  exact Nat.mod_eq_of_lt (by omega)
theorem xor_nat (a b : Nat) (ha : a < 9223372036854775808) (hb : b < 9223372036854775808) : bits .xor .i64 (a : Int) (b : Int) = ((a ^^^ b : Nat) : Int) := by
  have hx : a ^^^ b < 2 ^ 63 := Nat.xor_lt_two_pow (by omega) (by omega)
  show IntKind.i64.wrap ((BitVec.ofInt 64 (a : Int) ^^^ BitVec.ofInt 64 (b : Int)).toNat : Int) = _
  rw [BitVec.toNat_xor, ofInt64_nat a ha, ofInt64_nat b hb, IntKind.wrap_i64]
  omega
theorem and_nat (a b : Nat) (ha : a < 9223372036854775808) (hb : b < 9223372036854775808) : bits .and .i64 (a : Int) (b : Int) = ((a &&& b : Nat) : Int) := by
  have hx : a &&& b < 2 ^ 63 := Nat.and_lt_two_pow _ (by omega)
  show IntKind.i64.wrap ((BitVec.ofInt 64 (a : Int) &&& BitVec.ofInt 64 (b : Int)).toNat : Int) = _
  rw [BitVec.toNat_and, ofInt64_nat a ha, ofInt64_nat b hb, IntKind.wrap_i64]
  omega
theorem or_nat (a b : Nat) (ha : a < 9223372036854775808) (hb : b < 9223372036854775808) : bits .or .i64 (a : Int) (b : Int) = ((a ||| b : Nat) : Int) := by
  have hx : a ||| b < 2 ^ 63 := Nat.or_lt_two_pow (by omega) (by omega)
  show IntKind.i64.wrap ((BitVec.ofInt 64 (a : Int) ||| BitVec.ofInt 64 (b : Int)).toNat : Int) = _
  rw [BitVec.toNat_or, ofInt64_nat a ha, ofInt64_nat b hb, IntKind.wrap_i64]
  omega
theorem xor_nonneg {a b : Int} (ha : 0 ≤ a) (hb : 0 ≤ b) (ha' : a < 9223372036854775808) (hb' : b < 9223372036854775808) : 0 ≤ bits .xor .i64 a b := by
  obtain ⟨x, rfl⟩ := Int.eq_ofNat_of_zero_le ha
  obtain ⟨y, rfl⟩ := Int.eq_ofNat_of_zero_le hb
  rw [xor_nat x y (by omega) (by omega)]
  omega

def inB (n a b : Int) : Bool := decide (n ≥ a) && decide (n ≤ b)
theorem inB_true {n a b : Int} : inB n a b = true ↔ a ≤ n ∧ n ≤ b := by simp [inB]

theorem c_l1In (n a b : Int) (w : World) : Calls Tryz.prog 46 #[.int .i64 n, .int .i64 a, .int .i64 b] w fun e w' => e = .returned (.bool (inB n a b)) ∧ w = w' := by
  unfold inB
  by_cases h : n ≥ a
  all_goals
    go_enter Tryz.func46, Tryz.ntmps46
    go_wp2
    go_ret
    simp [h] <;> omega

theorem c_l2Top (w : World) : Calls Tryz.prog 41 #[] w fun e w' => e = .returned (.int .i64 4294967295) ∧ w = w' := by
  go_enter Tryz.func41, Tryz.ntmps41
  go_wp2
  go_ret
  exact ⟨rfl, rfl⟩

/-- The least number of ones, all of them low, that is no less. -/
def msk (n : Int) : Int := if n ≤ 0 then 0 else ((2 ^ (n.toNat.log2 + 1) : Nat) : Int) - 1
theorem msk_of {n : Int} {k : Nat} (h1 : n ≤ (2 ^ k : Nat) - 1) (h2 : k = 0 ∨ ((2 ^ (k - 1) : Nat) : Int) ≤ n) : ((2 ^ k : Nat) : Int) - 1 = msk n := by
  unfold msk
  rcases h2 with rfl | h2
  · have : n ≤ 0 := by simpa using h1
    simp [this]
  · have hp : 0 < 2 ^ (k - 1) := Nat.two_pow_pos _
    rcases Nat.eq_zero_or_pos k with rfl | hk
    · simp at h1 h2; omega
    · have hn : ¬ n ≤ 0 := by omega
      rw [if_neg hn]
      have e : n.toNat.log2 = k - 1 := by
        rw [Nat.log2_eq_iff (by omega)]
        rw [show k - 1 + 1 = k by omega]
        omega
      rw [e, show k - 1 + 1 = k by omega]
theorem two_le (k : Nat) (h : k ≤ 40) : ((2 ^ k : Nat) : Int) ≤ 1099511627776 := by
  have := Nat.pow_le_pow_right (n := 2) (by omega) h
  omega
theorem c_l2Mask (n : Int) (w : World) (hn : n ≤ 8589934592) : Calls Tryz.prog 72 #[.int .i64 n] w fun e w' => e = .returned (.int .i64 (msk n)) ∧ w = w' := by
  go_enter Tryz.func72, Tryz.ntmps72
  go_wp2
  go_loop [3] (fun m => ∃ k : Nat, k ≤ 35 ∧ (k = 0 ∨ ((2 ^ (k - 1) : Nat) : Int) ≤ n) ∧ m = .int .i64 (((2 ^ k : Nat) : Int) - 1)) (fun m => (34359738368 - intOf m).toNat)
  case atStart => exact ⟨0, by omega, .inl rfl, rfl⟩
  case round =>
    obtain ⟨k, hk, h2, rfl⟩ := hrel
    have hp : 0 < 2 ^ k := Nat.two_pow_pos _
    have hq := two_le k (by omega)
    have hs : (2 ^ (k + 1) : Nat) = 2 * 2 ^ k := by rw [Nat.pow_succ]; omega
    have HS := Lib.hid hs
    have H2 := Lib.hid h2
    clear hs h2
    obtain ⟨q, hqq⟩ : ∃ q : Nat, q = 2 ^ k := ⟨_, rfl⟩
    rw [← hqq] at hp hq ⊢
    have HQ := Lib.hid hqq
    clear hqq
    by_cases hlt : ((q : Int) - 1) < n
    · go_wp2
      go_round
      case rel =>
        have hk' : k < 34 := by
          rcases Nat.lt_or_ge k 34 with h | h
          · exact h
          · have := Nat.pow_le_pow_right (n := 2) (by omega) h
            have := HQ.out
            omega
        refine ⟨k + 1, by omega, .inr ?_, ?_⟩
        · have := HQ.out; rw [show k + 1 - 1 = k by omega, ← this]; omega
        · have := HQ.out; have := HS.out; congr 1; omega
      case measure => simp [intOf]; omega
    · go_wp2
      go_ret
      refine ⟨?_, rfl⟩
      have e := msk_of (n := n) (k := k) (by have := HQ.out; omega) H2.out
      rw [← HQ.out] at e
      exact ret_int e
end Go.Proofs.YtlofelnfcdbedaaGreat.S
namespace Go.Proofs.YtlofelnfcdbedaaGreat.S
open Go.RowKit Go.BigFrame
set_option linter.unusedVariables false
set_option linter.unusedSimpArgs false

/-! ### Frames -/
theorem gr_refl (w : World) (r : Option Nat) : w.grownBy w r := ⟨rfl, rfl, rfl, Nat.le_refl _, fun _ _ _ => rfl⟩
theorem gr_then {w W W' : World} {r : Option Nat} (h : w.grownBy W r) (h1 : W'.os = W.os) (h2 : W'.tape = W.tape) (h3 : W'.output = W.output) (h4 : W.heap.size ≤ W'.heap.size)
    (h5 : ∀ k, k < w.heap.size → some k ≠ r → W'.heap[k]? = W.heap[k]?) : w.grownBy W' r :=
  ⟨h1.trans h.os, h2.trans h.tape, h3.trans h.output, Nat.le_trans h.size h4, fun k hk hr => (h5 k hk hr).trans (h.block k hk hr)⟩
theorem gr_alloc {w W : World} {r : Option Nat} (h : w.grownBy W r) (o : Obj) : w.grownBy (W.alloc o) r :=
  gr_then h rfl rfl rfl (by simp) fun k hk _ => Below.heap_alloc W o k (Nat.lt_of_lt_of_le hk h.size)
theorem gr_drewN {w W : World} {r : Option Nat} (h : w.grownBy W r) (n : Nat) : w.grownBy (W.drewN n) r := ⟨h.os, h.tape, h.output, h.size, h.block⟩
theorem gr_drew {w W : World} {r : Option Nat} (h : w.grownBy W r) : w.grownBy W.drew r := ⟨h.os, h.tape, h.output, h.size, h.block⟩
theorem gr_set {w W : World} {r : Option Nat} (h : w.grownBy W r) {p : Addr} (u : Value) (hp : some p.block = r ∨ w.heap.size ≤ p.block) : w.grownBy (W.setCell p u) r :=
  gr_then h rfl rfl rfl (by simp [World.setCell]) fun k hk hr => Below.heap_setCell W p u k (by
    rintro rfl
    rcases hp with hp | hp
    · exact hr hp
    · omega)
theorem gr_trans {w W W' : World} {r : Option Nat} (h : w.grownBy W r) (h' : W.grownBy W' r) : w.grownBy W' r := h.trans h'
/-- What the call wrote is new to whoever came first. -/
theorem gr_new {w W W' : World} {r s : Option Nat} (h : w.grownBy W r) (h' : W.grownBy W' s) (hs : s = r ∨ ∀ k, s = some k → w.heap.size ≤ k) : w.grownBy W' r :=
  gr_then h h'.os h'.tape h'.output h'.size fun k hk hr => h'.block k (Nat.lt_of_lt_of_le hk h.size) (by
    rcases hs with rfl | hs
    · exact hr
    · intro e
      have := hs k e.symm
      omega)
theorem gr_below {w W : World} (h : w.grownBy W none) : Below w.heap.size w W := ⟨h.os, h.tape, h.output, h.size, fun k hk => h.block k hk (by simp)⟩
theorem gr_of_below {w W : World} (h : Below w.heap.size w W) (r : Option Nat) : w.grownBy W r := ⟨h.os, h.tape, h.output, h.size, fun k hk _ => h.block k hk⟩

/-! ### Blocks -/
/-- Block g is just these cells, none frozen. -/
def Blk (w : World) (g : Nat) (t : TypeId) (cs : Array Value) : Prop := w.heap[g]? = some (.cells cs t (0, 0))
theorem Blk.lt {w : World} {g : Nat} {t : TypeId} {cs : Array Value} (h : Blk w g t cs) : g < w.heap.size := by
  unfold Blk at h
  exact (Array.getElem?_eq_some_iff.1 h).1
theorem Blk.cell {w : World} {g : Nat} {t : TypeId} {cs : Array Value} (h : Blk w g t cs) (i : Nat) : w.cell? ⟨g, i, none⟩ = cs[i]? := cell_of_row w g i cs t (0, 0) h
theorem Blk.frozen {w : World} {g : Nat} {t : TypeId} {cs : Array Value} (h : Blk w g t cs) (i : Nat) : w.frozen? ⟨g, i, none⟩ = false := by
  unfold Blk at h
  simp [World.frozen?, h]
theorem Blk.alloc {w : World} {g : Nat} {t : TypeId} {cs : Array Value} (h : Blk w g t cs) (o : Obj) : Blk (w.alloc o) g t cs := (Below.heap_alloc w o g h.lt).trans h
theorem Blk.set_ {w : World} {g : Nat} {t : TypeId} {cs : Array Value} (h : Blk w g t cs) (i : Nat) (u : Value) : Blk (w.setCell ⟨g, i, none⟩ u) g t (cs.setIfInBounds i u) := by
  unfold Blk at h ⊢
  simp [World.setCell, Array.getElem?_modify, h]
theorem Blk.far {w : World} {g : Nat} {t : TypeId} {cs : Array Value} (h : Blk w g t cs) {p : Addr} (hp : g ≠ p.block) (u : Value) : Blk (w.setCell p u) g t cs := (Below.heap_setCell w p u g hp).trans h
theorem Blk.grown {w w' : World} {g : Nat} {t : TypeId} {cs : Array Value} {row : Option Nat} (h : Blk w g t cs) (hb : w.grownBy w' row) (hg : some g ≠ row) : Blk w' g t cs := (hb.block g h.lt hg).trans h
theorem Blk.new (w : World) (t : TypeId) (cs : Array Value) : Blk (w.alloc (.cells cs t)) w.heap.size t cs := by
  show (w.heap.push _)[w.heap.size]? = _
  simp
theorem add_block (a : Addr) (n : Nat) : (a.add n).block = a.block := by unfold Addr.add; split <;> rfl
theorem add_plain (g n : Nat) : (⟨g, 0, none⟩ : Addr).add n = ⟨g, n, none⟩ := by unfold Addr.add; split <;> simp_all

/-! ### The reader -/
/-- n bytes lie there, below block B. -/
def Bytes (B : Nat) (A : Option Addr) (n : Nat) (w : World) : Prop :=
  0 < n → ∃ ad : Addr, A = some ad ∧ ad.block < B ∧ ∀ i, i < n → ∃ x : Int, 0 ≤ x ∧ x ≤ 255 ∧ w.cell? (ad.add i) = some (.int .u8 x)
theorem Bytes.keep {B n : Nat} {A : Option Addr} {w w' : World} (h : Bytes B A n w) (hk : ∀ p : Addr, p.block < B → w'.cell? p = w.cell? p) : Bytes B A n w' := fun hn => by
  obtain ⟨ad, e, ha, hc⟩ := h hn
  exact ⟨ad, e, ha, fun i hi => by
    obtain ⟨x, h0, h1, hx⟩ := hc i hi
    exact ⟨x, h0, h1, (hk _ (by rw [add_block]; exact ha)).trans hx⟩⟩
/-- At g lies a reader over bytes that lie below B; its place is at most M. -/
def Rd (B g M : Nat) (w : World) : Prop :=
  ∃ (A : Option Addr) (n c p : Nat), Blk w g 51 #[.slice A n c, .int .i64 p] ∧ B ≤ g ∧ n ≤ 2000 ∧ p ≤ M ∧ Bytes B A n w
theorem Rd.lt {B g M : Nat} {w : World} (h : Rd B g M w) : g < w.heap.size := by
  obtain ⟨A, n, c, p, h, _⟩ := h
  exact h.lt
theorem Rd.ge {B g M : Nat} {w : World} (h : Rd B g M w) : B ≤ g := by
  obtain ⟨A, n, c, p, _, h, _⟩ := h
  exact h
theorem Rd.mono {B g M M' : Nat} {w : World} (h : Rd B g M w) (hM : M ≤ M') : Rd B g M' w := by
  obtain ⟨A, n, c, p, h1, h2, h3, h4, h5⟩ := h
  exact ⟨A, n, c, p, h1, h2, h3, by omega, h5⟩
theorem Rd.grown {B g M : Nat} {w w' : World} {r : Option Nat} (h : Rd B g M w) (hb : w.grownBy w' r) (hr : ∀ k, r = some k → B ≤ k ∧ k ≠ g) : Rd B g M w' := by
  have hlt := h.lt
  obtain ⟨A, n, c, p, h1, h2, h3, h4, h5⟩ := h
  refine ⟨A, n, c, p, h1.grown hb (fun e => (hr g e.symm).2 rfl), h2, h3, h4, h5.keep fun q hq => World.cell?_of_block (hb.block _ (by omega) (fun e => by have := (hr _ e.symm).1; omega))⟩
theorem Rd.alloc {B g M : Nat} {w : World} (h : Rd B g M w) (o : Obj) : Rd B g M (w.alloc o) := h.grown (gr_alloc (gr_refl w none) o) (by simp)
theorem Rd.drewN {B g M : Nat} {w : World} (h : Rd B g M w) (n : Nat) : Rd B g M (w.drewN n) := h
theorem Rd.drew {B g M : Nat} {w : World} (h : Rd B g M w) : Rd B g M w.drew := h
theorem Rd.set {B g M : Nat} {w : World} (h : Rd B g M w) {q : Addr} (u : Value) (hq : g < q.block) : Rd B g M (w.setCell q u) :=
  h.grown (r := some q.block) (gr_set (gr_refl w _) u (.inl rfl)) (by have := h.ge; rintro k ⟨rfl⟩; omega)

/-- What a draw hands back: a number from 0 on, below the bound if that is one. -/
def Picked (B g M : Nat) (n : Int) (w : World) (e : Ending) (w' : World) : Prop :=
  ∃ r : Int, e = .returned (.int .i64 r) ∧ 0 ≤ r ∧ (1 ≤ n → r < n) ∧ (n < 1 → r = 0) ∧ Rd B g (M + 1) w' ∧ w.grownBy w' (some g)

theorem rd_step {B g M : Nat} {w : World} {A : Option Addr} {n c p : Nat} (hb : Blk w g 51 #[.slice A n c, .int .i64 p]) (hB : B ≤ g) (hl : n ≤ 2000) (hp : p ≤ M) (hr : Bytes B A n w) :
    Rd B g (M + 1) (w.setCell ⟨g, 1, none⟩ (.int .i64 ((p : Int) + 1))) ∧ w.grownBy (w.setCell ⟨g, 1, none⟩ (.int .i64 ((p : Int) + 1))) (some g) ∧ Bytes B A n (w.setCell ⟨g, 1, none⟩ (.int .i64 ((p : Int) + 1))) := by
  have hk : Bytes B A n (w.setCell ⟨g, 1, none⟩ (.int .i64 ((p : Int) + 1))) := hr.keep fun q hq => World.cell?_of_block (Below.heap_setCell w _ _ _ (by show q.block ≠ g; omega))
  refine ⟨⟨A, n, c, p + 1, ?_, hB, hl, by omega, hk⟩, gr_set (gr_refl _ _) _ (.inl rfl), hk⟩
  have := hb.set_ 1 (.int .i64 ((p : Int) + 1))
  simpa using this

theorem c_pick0 (n : Int) (B g M : Nat) (w : World) (h : Rd B g M w) (hM : M ≤ 1099511627776) (hn : n < 1) :
    Calls Tryz.prog 13 #[.pointer (some ⟨g, 0, none⟩), .int .i64 n] w (Picked B g M n w) := by
  obtain ⟨A, l, c, p, hb, hB, hl, hp, hr⟩ := h
  obtain ⟨HR, HG, _⟩ := rd_step hb hB hl hp hr
  have hc0 := hb.cell 0
  have hc1 := hb.cell 1
  have hf1 := hb.frozen 1
  go_enter Tryz.func13, Tryz.ntmps13
  go_wp2
  go_ret
  exact ⟨0, rfl, by omega, by omega, fun _ => rfl, HR, HG⟩

theorem c_pick1 (n : Int) (B g M : Nat) (w : World) (A : Option Addr) (c p : Nat) (hb : Blk w g 51 #[.slice A 0 c, .int .i64 p]) (hB : B ≤ g) (hp : p ≤ M) (hM : M ≤ 1099511627776) (hn : 1 ≤ n) :
    Calls Tryz.prog 13 #[.pointer (some ⟨g, 0, none⟩), .int .i64 n] w (Picked B g M n w) := by
  obtain ⟨HR, HG, _⟩ := rd_step (M := M) hb hB (by simp) hp (fun h => absurd h (by omega))
  have hc0 := hb.cell 0
  have hc1 := hb.cell 1
  have hf1 := hb.frozen 1
  have hd1 : decide (n < 1) = false := by simp; omega
  go_enter Tryz.func13, Tryz.ntmps13
  go_wp2
  go_ret
  exact ⟨0, rfl, by omega, by omega, fun _ => rfl, HR, HG⟩

theorem tmod_picked {x n : Int} (h0 : 0 ≤ x) (hn : 1 ≤ n) : 0 ≤ x.tmod n ∧ x.tmod n < n := by
  rw [Int.tmod_eq_emod_of_nonneg h0]
  exact ⟨Int.emod_nonneg _ (by omega), Int.emod_lt_of_pos _ (by omega)⟩

theorem c_pick2 (n : Int) (B g M : Nat) (w : World) (ad : Addr) (l c p : Nat) (hb : Blk w g 51 #[.slice (some ad) l c, .int .i64 p]) (hB : B ≤ g) (hl : l ≤ 2000) (hp : p ≤ M)
    (hr : Bytes B (some ad) l w) (hM : M ≤ 1099511627776) (hn : 1 ≤ n) (hlt : p < l) :
    Calls Tryz.prog 13 #[.pointer (some ⟨g, 0, none⟩), .int .i64 n] w (Picked B g M n w) := by
  obtain ⟨HR, HG, HB⟩ := rd_step (M := M) hb hB hl hp hr
  have hc0 := hb.cell 0
  have hc1 := hb.cell 1
  have hf1 := hb.frozen 1
  obtain ⟨ad', e, _, hx⟩ := HB (by omega)
  injection e with e
  subst e
  obtain ⟨x, hx0, hx1, hx⟩ := hx p hlt
  have hd : decide (p < l) = true := decide_eq_true hlt
  have hd0 : ((l : Int) == 0) = false := by simp; omega
  have hd1 : decide (n < 1) = false := by simp; omega
  clear hr HB
  go_enter Tryz.func13, Tryz.ntmps13
  go_wp2
  go_ret
  exact ⟨x % n, rfl, Int.emod_nonneg _ (by omega), fun _ => Int.emod_lt_of_pos _ (by omega), by omega, HR, HG⟩

theorem c_pick3 (n : Int) (B g M : Nat) (w : World) (ad : Addr) (l c p : Nat) (hb : Blk w g 51 #[.slice (some ad) l c, .int .i64 p]) (hB : B ≤ g) (hl : l ≤ 2000) (hp : p ≤ M)
    (hr : Bytes B (some ad) l w) (hM : M ≤ 1099511627776) (hn : 1 ≤ n) (hlt : l ≤ p) (h0 : 0 < l) :
    Calls Tryz.prog 13 #[.pointer (some ⟨g, 0, none⟩), .int .i64 n] w (Picked B g M n w) := by
  obtain ⟨HR, HG, HB⟩ := rd_step (M := M) hb hB hl hp hr
  have hc0 := hb.cell 0
  have hc1 := hb.cell 1
  have hf1 := hb.frozen 1
  obtain ⟨ad', e, _, hx⟩ := HB (by omega)
  injection e with e
  subst e
  obtain ⟨x, hx0, hx1, hxx⟩ := hx (p % l) (Nat.mod_lt _ h0)
  obtain ⟨y, hy0, hy1, hyy⟩ := hx ((p * 7 + 3) % l) (Nat.mod_lt _ h0)
  clear hx
  have hi1 : (p : Int) % (l : Int) < (l : Int) := Int.emod_lt_of_pos _ (by omega)
  have hi0 : 0 ≤ (p : Int) % (l : Int) := Int.emod_nonneg _ (by omega)
  have hj1 : ((p : Int) * 7 + 3) % (l : Int) < (l : Int) := Int.emod_lt_of_pos _ (by omega)
  have hj0 : 0 ≤ ((p : Int) * 7 + 3) % (l : Int) := Int.emod_nonneg _ (by omega)
  have hq0 : 0 ≤ (p : Int) / (l : Int) := Int.ediv_nonneg (by omega) (by omega)
  have hq1 : (p : Int) / (l : Int) ≤ (p : Int) := Int.ediv_le_self _ (by omega)
  have hd : decide (p < l) = false := decide_eq_false (by omega)
  have hd0 : ((l : Int) == 0) = false := by simp; omega
  have hd1 : decide (n < 1) = false := by simp; omega
  clear hr HB
  go_enter Tryz.func13, Tryz.ntmps13
  go_wp2
  go_quiet (fail)
  go_wp2
  go_ret
  obtain ⟨h1, h2⟩ := tmod_picked (x := bits .xor .i64 (x * 131 + y * 1117 + p * 29 + (p : Int) / (l : Int) * 53) ((x * 131 + y * 1117 + p * 29 + (p : Int) / (l : Int) * 53) / 64)) (n := n) (xor_nonneg (by omega) (by omega) (by omega) (by omega)) hn
  exact ⟨_, rfl, h1, fun _ => h2, by omega, HR.drewN nq, gr_drewN HG nq⟩

theorem c_pick (n : Int) (B g M : Nat) (w : World) (h : Rd B g M w) (hM : M ≤ 1099511627776) :
    Calls Tryz.prog 13 #[.pointer (some ⟨g, 0, none⟩), .int .i64 n] w (Picked B g M n w) := by
  rcases Int.lt_or_le n 1 with hn | hn
  · exact c_pick0 n B g M w h hM hn
  · obtain ⟨A, l, c, p, hb, hB, hl, hp, hr⟩ := h
    rcases Nat.eq_zero_or_pos l with rfl | h0
    · exact c_pick1 n B g M w A c p hb hB hp hM hn
    · obtain ⟨ad, rfl, _⟩ := hr h0
      rcases Nat.lt_or_ge p l with hlt | hge
      · exact c_pick2 n B g M w ad l c p hb hB hl hp hr hM hn hlt
      · exact c_pick3 n B g M w ad l c p hb hB hl hp hr hM hn hge h0

/-- One of n numbers, each of which lies between two others. -/
def Oned (B g M : Nat) (lo hi : Int) (w : World) (e : Ending) (w' : World) : Prop :=
  ∃ r : Int, e = .returned (.int .i64 r) ∧ lo ≤ r ∧ r ≤ hi ∧ Rd B g (M + 1) w' ∧ w.grownBy w' (some g)
def Among (b : Nat) (n : Nat) (lo hi : Int) (w : World) : Prop := ∀ i, i < n → ∃ x : Int, lo ≤ x ∧ x ≤ hi ∧ w.cell? ⟨b, i, none⟩ = some (.int .i64 x)
theorem Among.grown {b n g : Nat} {lo hi : Int} {w w' : World} (h : Among b n lo hi w) (hg : w.grownBy w' (some g)) (hne : b ≠ g) : Among b n lo hi w' := fun i hi => by
  obtain ⟨x, h0, h1, hx⟩ := h i hi
  exact ⟨x, h0, h1, hg.cell hx (by simpa using hne)⟩
theorem c_one (b n c : Nat) (lo hi : Int) (B g M : Nat) (w : World) (h : Rd B g M w) (hM : M ≤ 1099511627776) (hn : 1 ≤ n) (hn' : n ≤ 1000000) (ha : Among b n lo hi w) (hne : b ≠ g) :
    Calls Tryz.prog 31 #[.pointer (some ⟨g, 0, none⟩), .slice (some ⟨b, 0, none⟩) n c] w (Oned B g M lo hi w) := by
  go_enter Tryz.func31, Tryz.ntmps31
  go_wp2_with ((go_at_call 13; refine (c_pick _ _ _ _ _ (by assumption) (by omega)).mono ?_; rintro e w' ⟨r, rfl, hr0, hr1, hr2, hR, hG⟩; obtain ⟨x, hx0, hx1, hx⟩ := (ha.grown hG hne) r.toNat (by omega)))
  go_ret
  exact ⟨x, rfl, hx0, hx1, hR, hG⟩
/-- The numbers of a literal. -/
def btw (lo hi : Int) : Value → Bool
  | .int .i64 x => decide (lo ≤ x) && decide (x ≤ hi)
  | _ => false
theorem btw_of {lo hi : Int} {v : Value} (h : btw lo hi v = true) : ∃ x : Int, lo ≤ x ∧ x ≤ hi ∧ v = .int .i64 x := by
  unfold btw at h
  split at h
  · rw [Bool.and_eq_true] at h
    exact ⟨_, of_decide_eq_true h.1, of_decide_eq_true h.2, rfl⟩
  · cases h
theorem among_lit (w : World) (cs : Array Value) (t : TypeId) (n : Nat) (lo hi : Int) (hn : cs.size = n) (h : cs.toList.all (btw lo hi) = true) : Among w.heap.size n lo hi (w.alloc (.cells cs t)) := fun i hi => by
  have hb := Blk.new w t cs
  rw [hb.cell i]
  obtain ⟨x, h0, h1, hx⟩ := btw_of (List.all_eq_true.1 h _ (Array.mem_toList_iff.2 (Array.getElem_mem (show i < cs.size by omega))))
  exact ⟨x, h0, h1, by rw [Array.getElem?_eq_getElem (by omega), hx]⟩

/-- One of a literal's numbers: the literal is the newest block. -/
def litOk (lo hi : Int) (n : Nat) (cs : Array Value) : Bool := decide (cs.size = n) && decide (1 ≤ n) && decide (n ≤ 1000) && cs.toList.all (btw lo hi)
theorem c_one_lit (lo hi : Int) (W : World) (cs : Array Value) (b n c B g M : Nat) (hb : b = W.heap.size) (h : litOk lo hi n cs = true) (hR : Rd B g M W) (hM : M ≤ 1099511627776) :
    Calls Tryz.prog 31 #[.pointer (some ⟨g, 0, none⟩), .slice (some ⟨b, 0, none⟩) n c] (W.alloc (.cells cs 3)) (Oned B g M lo hi (W.alloc (.cells cs 3))) := by
  subst hb
  unfold litOk at h
  simp only [Bool.and_eq_true, decide_eq_true_eq] at h
  obtain ⟨⟨⟨h1, h2⟩, h3⟩, h4⟩ := h
  exact c_one _ _ _ _ _ _ _ _ _ (hR.alloc _) hM h2 (by omega) (among_lit _ _ _ _ _ _ h1 h4) (by have := hR.lt; omega)
/-- Behind a part of a call that began in w: only block g, and what is new, may have turned. -/
def Fr (w : World) (g : Nat) (W : World) : Prop := w.grownBy W (some g)
theorem Fr.refl (w : World) (g : Nat) : Fr w g w := gr_refl w _
theorem Fr.size {w W : World} {g : Nat} (h : Fr w g W) : w.heap.size ≤ W.heap.size := World.grownBy.size h
theorem Fr.alloc {w W : World} {g : Nat} (h : Fr w g W) (o : Obj) : Fr w g (W.alloc o) := gr_alloc h o
theorem Fr.drewN {w W : World} {g : Nat} (h : Fr w g W) (n : Nat) : Fr w g (W.drewN n) := gr_drewN h n
theorem Fr.drew {w W : World} {g : Nat} (h : Fr w g W) : Fr w g W.drew := gr_drew h
theorem Fr.set {w W : World} {g : Nat} (h : Fr w g W) (p : Addr) (u : Value) (hp : w.heap.size ≤ p.block) : Fr w g (W.setCell p u) := gr_set h u (.inr hp)
theorem Fr.call {w W W' : World} {g : Nat} (h : Fr w g W) (h' : W.grownBy W' (some g)) : Fr w g W' := gr_trans h h'
theorem Fr.below {w W W' : World} {g : Nat} (h : Fr w g W) (h' : Below W.heap.size W W') : Fr w g W' := gr_trans h (gr_of_below h' _)
theorem Fr.own {w W W' : World} {g : Nat} {r : Option Nat} (h : Fr w g W) (h' : W.grownBy W' r) (hr : ∀ k, r = some k → w.heap.size ≤ k) : Fr w g W' := gr_new h h' (.inr hr)
/-- A row of the call's own is not the reader. -/
theorem own_gr {W W' : World} {base : Nat} {e : TypeId} {size : Nat} {v : Value} {n g : Nat} {xs : List Value} (h : W.ownsRow base e size v n xs) (hg : W.grownBy W' (some g)) (hb : g < base) : W'.ownsRow base e size v n xs :=
  h.kept hg (by
    cases hv : v.ownBlock with
    | none => exact .inl rfl
    | some k =>
      have := (h.lt k hv).1
      exact .inr (by simp; omega))
theorem own_bl {W W' : World} {base : Nat} {e : TypeId} {size : Nat} {v : Value} {n : Nat} {xs : List Value} (h : W.ownsRow base e size v n xs) (hg : Below W.heap.size W W') : W'.ownsRow base e size v n xs :=
  h.kept (gr_of_below hg none) (by cases v.ownBlock <;> simp)
theorem own_alloc {W : World} {base : Nat} {e : TypeId} {size : Nat} {v : Value} {n : Nat} {xs : List Value} (h : W.ownsRow base e size v n xs) (o : Obj) : (W.alloc o).ownsRow base e size v n xs := h.alloc o
theorem own_drewN {W : World} {base : Nat} {e : TypeId} {size : Nat} {v : Value} {n : Nat} {xs : List Value} (h : W.ownsRow base e size v n xs) (m : Nat) : (W.drewN m).ownsRow base e size v n xs := h
theorem own_set {W : World} {base : Nat} {e : TypeId} {size : Nat} {v : Value} {n : Nat} {xs : List Value} (h : W.ownsRow base e size v n xs) {p : Addr} (u : Value) (hp : v.ownBlock ≠ some p.block) : (W.setCell p u).ownsRow base e size v n xs :=
  h.kept (row := some p.block) (gr_set (gr_refl W _) u (.inl rfl)) (.inr hp)
theorem own_empty (W : World) (base : Nat) (e : TypeId) (size : Nat) (hb : base ≤ W.heap.size) : (W.alloc (.cells #[] e)).ownsRow base e size (.slice (some ⟨W.heap.size, 0, none⟩) 0 0) 0 [] :=
  World.ownsRow_made W #[] 0 hb (by simp [maxLen]) (by simp)
theorem Rd.app {B g M : Nat} {W W' : World} {base : Nat} {e : TypeId} {size : Nat} {v : Value} {n : Nat} {xs : List Value} (h : Rd B g M W) (hown : W.ownsRow base e size v n xs) (hb : g < base) (hG : W.grownBy W' v.ownBlock) : Rd B g M W' :=
  h.grown hG fun k hk => by have := (hown.lt k hk).1; have := h.ge; omega
theorem Fr.app {w W W' : World} {g : Nat} {base : Nat} {e : TypeId} {size : Nat} {v : Value} {n : Nat} {xs : List Value} (h : Fr w g W) (hown : W.ownsRow base e size v n xs) (hb : w.heap.size ≤ base) (hG : W.grownBy W' v.ownBlock) : Fr w g W' :=
  h.own hG fun k hk => by have := (hown.lt k hk).1; omega

def isI (u : Value) : Prop := ∃ x : Int, u = .int .i64 x
def isS (K : Nat) (u : Value) : Prop := ∃ s : ByteArray, u = .string s ∧ s.size ≤ K
def strB (K : Nat) : Value → Bool
  | .string s => decide (s.size ≤ K)
  | _ => false
theorem isS_of {K : Nat} {l : List Value} (h : l.all (strB K) = true) : ∀ u ∈ l, isS K u := fun u hu => by
  have := List.all_eq_true.1 h u hu
  cases u <;> simp only [strB, Bool.false_eq_true] at this
  exact ⟨_, rfl, of_decide_eq_true this⟩
/-- A row of the call's own, each of whose cells is of a kind. -/
def OwnP (p : Value → Prop) (w : World) (base : Nat) (e : TypeId) (size : Nat) (v : Value) (n : Nat) : Prop := ∃ xs : List Value, w.ownsRow base e size v n xs ∧ ∀ u ∈ xs, p u
abbrev OwnI := OwnP isI
section
variable {p : Value → Prop} {W W' : World} {base : Nat} {e : TypeId} {size : Nat} {v : Value} {n g : Nat}
theorem OwnP.lt (h : OwnP p W base e size v n) : ∀ k, v.ownBlock = some k → base ≤ k ∧ k < W.heap.size := let ⟨_, h, _⟩ := h; h.lt
theorem OwnP.gr (h : OwnP p W base e size v n) (hg : W.grownBy W' (some g)) (hb : g < base) : OwnP p W' base e size v n := let ⟨xs, h, hi⟩ := h; ⟨xs, own_gr h hg hb, hi⟩
theorem OwnP.bl (h : OwnP p W base e size v n) (hg : Below W.heap.size W W') : OwnP p W' base e size v n := let ⟨xs, h, hi⟩ := h; ⟨xs, own_bl h hg, hi⟩
theorem OwnP.low (h : OwnP p W base e size v n) {base' : Nat} (hb : base' ≤ base) : OwnP p W base' e size v n := by
  obtain ⟨xs, ⟨h1, h2⟩, hi⟩ := h
  refine ⟨xs, ⟨h1, ?_⟩, hi⟩
  rcases h2 with h2 | ⟨b, cap, cur, hv, hb', h2⟩
  · exact .inl h2
  · exact .inr ⟨b, cap, cur, hv, by omega, h2⟩
theorem OwnP.alloc (h : OwnP p W base e size v n) (o : Obj) : OwnP p (W.alloc o) base e size v n := let ⟨xs, h, hi⟩ := h; ⟨xs, own_alloc h o, hi⟩
theorem OwnP.drewN (h : OwnP p W base e size v n) (m : Nat) : OwnP p (W.drewN m) base e size v n := h
theorem OwnP.set (h : OwnP p W base e size v n) {q : Addr} (u : Value) (hp : v.ownBlock ≠ some q.block) : OwnP p (W.setCell q u) base e size v n := let ⟨xs, h, hi⟩ := h; ⟨xs, own_set h u hp, hi⟩
theorem OwnP.form (h : OwnP p W base e size v n) (hn : 0 < n) : ∃ b cap, v = .slice (some ⟨b, 0, none⟩) n cap ∧ base ≤ b ∧ b < W.heap.size := let ⟨_, h, _⟩ := h; World.ownsRow.form h hn
theorem OwnP.shape (h : OwnP p W base e size v n) : ∃ A c, v = .slice A n c ∧ n ≤ c := by
  obtain ⟨xs, h, _⟩ := h
  rcases h.2 with ⟨rfl, rfl⟩ | ⟨b, cap, cur, rfl, _, _, hc, _⟩
  · exact ⟨_, _, rfl, Nat.le_refl _⟩
  · exact ⟨_, _, rfl, hc⟩
theorem OwnP.at_ {b cap : Nat} (h : OwnP p W base e size (.slice (some ⟨b, 0, none⟩) n cap) n) (j : Nat) (hj : j < n * size) : ∃ u, p u ∧ W.cell? ⟨b, j, none⟩ = some u := by
  obtain ⟨xs, h, hi⟩ := h
  have hl : j < xs.length := by rw [h.1]; exact hj
  exact ⟨xs[j], hi _ (List.getElem_mem hl), by rw [h.cellAt j hj, List.getElem?_eq_getElem hl]⟩
theorem OwnP.cell {b cap : Nat} (h : OwnI W base e size (.slice (some ⟨b, 0, none⟩) n cap) n) (j : Nat) (hj : j < n * size) : ∃ x : Int, W.cell? ⟨b, j, none⟩ = some (.int .i64 x) := by
  obtain ⟨u, ⟨x, rfl⟩, hc⟩ := h.at_ j hj
  exact ⟨x, hc⟩
theorem OwnP.cellS {K b cap : Nat} (h : OwnP (isS K) W base e size (.slice (some ⟨b, 0, none⟩) n cap) n) (j : Nat) (hj : j < n * size) : ∃ s : ByteArray, s.size ≤ K ∧ W.cell? ⟨b, j, none⟩ = some (.string s) := by
  obtain ⟨u, ⟨s, rfl, hs⟩, hc⟩ := h.at_ j hj
  exact ⟨s, hs, hc⟩
theorem OwnP.frozen {b cap : Nat} (h : OwnP p W base e size (.slice (some ⟨b, 0, none⟩) n cap) n) (j : Nat) : W.frozen? ⟨b, j, none⟩ = false := let ⟨_, h, _⟩ := h; h.frozenAt j
theorem OwnP.putP {b cap : Nat} (h : OwnP p W base e size (.slice (some ⟨b, 0, none⟩) n cap) n) (j : Nat) (u : Value) (hu : p u) : OwnP p (W.setCell ⟨b, j, none⟩ u) base e size (.slice (some ⟨b, 0, none⟩) n cap) n := by
  obtain ⟨xs, h, hi⟩ := h
  refine ⟨_, (h.stored j _).1, fun v hv => ?_⟩
  rcases List.mem_or_eq_of_mem_set hv with h | rfl
  · exact hi v h
  · exact hu
theorem OwnP.put {b cap : Nat} (h : OwnI W base e size (.slice (some ⟨b, 0, none⟩) n cap) n) (j : Nat) (x : Int) : OwnI (W.setCell ⟨b, j, none⟩ (.int .i64 x)) base e size (.slice (some ⟨b, 0, none⟩) n cap) n := h.putP j _ ⟨x, rfl⟩
theorem OwnP.snoc {xs : List Value} {cs : Array Value} {m : Nat} (h : W.ownsRow base e size v m (xs ++ cs.toList)) (hi : ∀ u ∈ xs, p u) (hc : ∀ u ∈ cs.toList, p u) : OwnP p W base e size v m :=
  ⟨_, h, fun u hu => (List.mem_append.1 hu).elim (hi u) (hc u)⟩
theorem OwnP.empty (p : Value → Prop) (W : World) (base : Nat) (e : TypeId) (size : Nat) (hb : base ≤ W.heap.size) : OwnP p (W.alloc (.cells #[] e)) base e size (.slice (some ⟨W.heap.size, 0, none⟩) 0 0) 0 := ⟨[], own_empty W base e size hb, by simp⟩
theorem OwnP.nil (p : Value → Prop) (W : World) (base : Nat) (e : TypeId) (size : Nat) : OwnP p W base e size (.slice none 0 0) 0 := ⟨[], World.ownsRow_nil W base e size, by simp⟩
theorem OwnP.lit (p : Value → Prop) (W : World) (base : Nat) (e : TypeId) (size n : Nat) (cs : Array Value) (hb : base ≤ W.heap.size) (hn : n ≤ 1000000) (hs : cs.size = n * size) (hp : ∀ u ∈ cs.toList, p u) : OwnP p (W.alloc (.cells cs e)) base e size (.slice (some ⟨W.heap.size, 0, none⟩) n n) n :=
  ⟨_, World.ownsRow_lit W cs n hb (by unfold maxLen; omega) hs, hp⟩
theorem OwnP.cut {m : Nat} (h : OwnP p W base e size v n) (hm : m ≤ n) {A : Option Addr} {c : Nat} (hv : v = .slice A n c) : OwnP p W base e size (.slice A m c) m := by
  subst hv
  obtain ⟨xs, h, hi⟩ := h
  refine ⟨xs.take (m * size), ⟨by rw [List.length_take, h.1]; exact Nat.min_eq_left (Nat.mul_le_mul_right _ hm), ?_⟩, fun u hu => hi u (List.mem_of_mem_take hu)⟩
  rcases h.2 with ⟨h1, rfl⟩ | ⟨b, cap, cur, h1, hb, hh, hc, hx, hs, ht⟩
  · simp only [Value.slice.injEq] at h1
    obtain ⟨rfl, _, rfl⟩ := h1
    exact .inl ⟨by rw [show m = 0 by omega], by omega⟩
  · simp only [Value.slice.injEq, true_and] at h1
    obtain ⟨rfl, rfl⟩ := h1
    refine .inr ⟨b, c, cur, rfl, hb, hh, by omega, hx, hs, ?_⟩
    rw [← ht, List.take_take, Nat.min_eq_left (Nat.mul_le_mul_right _ hm)]
theorem OwnP.mono {q : Value → Prop} (h : OwnP p W base e size v n) (hpq : ∀ u, p u → q u) : OwnP q W base e size v n := let ⟨xs, h, hi⟩ := h; ⟨xs, h, fun u hu => hpq u (hi u hu)⟩
end

/-- A slice whose cells are of a kind: for whoever only reads it. -/
def AtP (p : Value → Prop) (w : World) (A : Option Addr) (n size : Nat) : Prop := 0 < n → ∃ ad : Addr, A = some ad ∧ ∀ i, i < n * size → ∃ u, p u ∧ w.cell? (ad.add i) = some u
theorem OwnP.reads {p : Value → Prop} {W : World} {base : Nat} {e : TypeId} {size n c : Nat} {A : Option Addr} (h : OwnP p W base e size (.slice A n c) n) : AtP p W A n size := fun hn => by
  obtain ⟨b, cap, hv, _, _⟩ := h.form hn
  simp only [Value.slice.injEq] at hv
  obtain ⟨rfl, _, rfl⟩ := hv
  exact ⟨_, rfl, fun i hi => by
    obtain ⟨u, hu, hc⟩ := h.at_ i hi
    exact ⟨u, hu, by rw [add_plain]; exact hc⟩⟩
theorem AtP.keep {p : Value → Prop} {w w' : World} {A : Option Addr} {n size : Nat} (h : AtP p w A n size) (hk : ∀ a v, w.cell? a = some v → w'.cell? a = some v) : AtP p w' A n size := fun hn => by
  obtain ⟨ad, e, hc⟩ := h hn
  exact ⟨ad, e, fun i hi => by
    obtain ⟨u, hu, hx⟩ := hc i hi
    exact ⟨u, hu, hk _ _ hx⟩⟩
theorem cell_below {w w' : World} (h : Below w.heap.size w w') (a : Addr) (v : Value) (hc : w.cell? a = some v) : w'.cell? a = some v := (h.cell (World.block_lt_of_cell? w a hc)).trans hc
theorem AtP.bl {p : Value → Prop} {w w' : World} {A : Option Addr} {n size : Nat} (h : AtP p w A n size) (hb : Below w.heap.size w w') : AtP p w' A n size := h.keep (cell_below hb)
theorem AtP.alloc {p : Value → Prop} {w : World} {A : Option Addr} {n size : Nat} (h : AtP p w A n size) (o : Obj) : AtP p (w.alloc o) A n size := h.bl ((Below.refl _ _).alloc (Nat.le_refl _) o)
theorem AtP.cut {p : Value → Prop} {w : World} {A : Option Addr} {n m size : Nat} (h : AtP p w A n size) (hm : m ≤ n) : AtP p w A m size := fun h0 => by
  obtain ⟨ad, e, hc⟩ := h (by omega)
  exact ⟨ad, e, fun i hi => hc i (Nat.lt_of_lt_of_le hi (Nat.mul_le_mul_right _ hm))⟩

/-- What is known of the elements of a slice type. -/
structure Elt (P : Program) (t e size bytes : Nat) : Prop where
  und : P.underlying t = some (.slice e)
  inf : ∃ i z, P.info? e = some i ∧ i.zero = some z ∧ i.size = size ∧ i.bytes = bytes ∧ z.cells.size = size
  pos : 0 < size
theorem elt_of {P : Program} {t e size bytes : Nat} {z : Value} (hu : P.underlying t = some (.slice e)) (h : (P.info? e).map (fun i => (i.zero, i.size, i.bytes)) = some (some z, size, bytes)) (hz : z.cells.size = size) (hp : 0 < size) : Elt P t e size bytes := by
  obtain ⟨i, h1, h2, h3, h4⟩ := info_parts h
  exact ⟨hu, ⟨i, z, h1, h2, h3, h4, hz⟩, hp⟩
theorem cells_new (W : World) (t : TypeId) (cs : Array Value) (j : Nat) (u : Value) (h : cs.toList[j]? = some u) : (W.alloc (.cells cs t)).cell? ((⟨W.heap.size, 0, none⟩ : Addr).add j) = some u := by
  rw [add_plain, (Blk.new W t cs).cell j]
  simpa using h

/-- append of one element, or of a literal's few, onto a row of the call's own. -/
theorem app_lit {P : Program} {ops : Array Oper} {rest : List Oper} {o : Oper} {a : Act} {Q : Exit → Act → World → Prop} {t e size bytes : Nat} (hE : Elt P t e size bytes) (hgd : o.guard = none) (s x : Operand)
    (ho : o.op = .call { callee := .builtin .append, args := #[s, x], argTypes := #[t, t] }) (W : World) (cs : Array Value) (t' : TypeId) (base : Nat) (v : Value) (n : Nat) (xs : List Value) (hs : a.eval s = v) (b m c : Nat)
    (hx : a.eval x = .slice (some ⟨b, 0, none⟩) m c) (hb : b = W.heap.size) (hcs : cs.size = m * size) (h1 : ∀ u ∈ cs.toList, u.oneCell' = true) (hown : W.ownsRow base e size v n xs) (hn : (n + m) * bytes ≤ 140737488355328) (hn' : n + m ≤ maxLen) (hbase : base ≤ W.heap.size)
    (h : ∀ v' w', w'.ownsRow base e size v' (n + m) (xs ++ cs.toList) → W.grownBy w' v.ownBlock → wpList P ops Q rest (a.put o.dst v') w') : wpList P ops Q (o :: rest) a (W.alloc (.cells cs t')) := by
  subst hb
  obtain ⟨i, z, hi, hz, h2, h3, h4⟩ := hE.inf
  refine wpList_append_own _ hgd s x t ho base e i z size bytes hE.und hi hz h2 h3 h4 hE.pos v n xs hs (hown.alloc _) _ m c cs.toList hx (by simpa using hcs) (cells_new W t' cs) h1 hn' hn (by simp; omega) fun v' w' h5 h6 _ => ?_
  exact h v' w' h5 (World.grownBy.trans (World.grownBy_alloc W _ _) h6)
/-- The same in a call that draws. -/
theorem app_d {P : Program} {ops : Array Oper} {rest : List Oper} {o : Oper} {a : Act} {Q : Exit → Act → World → Prop} {t e size bytes : Nat} (hE : Elt P t e size bytes) (hgd : o.guard = none) (s x : Operand)
    (ho : o.op = .call { callee := .builtin .append, args := #[s, x], argTypes := #[t, t] }) (W w : World) (cs : Array Value) (t' : TypeId) (v : Value) (n : Nat) (xs : List Value) (hs : a.eval s = v) (b m c B g M : Nat)
    (hx : a.eval x = .slice (some ⟨b, 0, none⟩) m c) (hb : b = W.heap.size) (hcs : cs.size = m * size) (h1 : ∀ u ∈ cs.toList, u.oneCell' = true) (hown : W.ownsRow w.heap.size e size v n xs) (hR : Rd B g M W) (hF : Fr w g W) (hg : g < w.heap.size) (hn : (n + m) * bytes ≤ 140737488355328) (hn' : n + m ≤ 4611686018427387904)
    (h : ∀ v' w', w'.ownsRow w.heap.size e size v' (n + m) (xs ++ cs.toList) → Rd B g M w' → Fr w g w' → wpList P ops Q rest (a.put o.dst v') w') : wpList P ops Q (o :: rest) a (W.alloc (.cells cs t')) :=
  app_lit hE hgd s x ho W cs t' w.heap.size v n xs hs b m c hx hb hcs h1 hown hn (by unfold maxLen; omega) (Fr.size hF) fun v' w' h5 h6 => h v' w' h5 (hR.app hown hg h6) (hF.app hown (Nat.le_refl _) h6)
/-- The same of a row whose cells are of a kind. -/
theorem app_p {P : Program} {ops : Array Oper} {rest : List Oper} {o : Oper} {a : Act} {Q : Exit → Act → World → Prop} {t e size bytes : Nat} (p : Value → Prop) (hp1 : ∀ u, p u → u.oneCell' = true) (hE : Elt P t e size bytes) (hgd : o.guard = none) (s x : Operand)
    (ho : o.op = .call { callee := .builtin .append, args := #[s, x], argTypes := #[t, t] }) (W : World) (cs : Array Value) (t' : TypeId) (base : Nat) (v : Value) (n : Nat) (hs : a.eval s = v) (b m c : Nat)
    (hx : a.eval x = .slice (some ⟨b, 0, none⟩) m c) (hb : b = W.heap.size) (hcs : cs.size = m * size) (hci : ∀ u ∈ cs.toList, p u) (hown : OwnP p W base e size v n) (hn : (n + m) * bytes ≤ 140737488355328) (hn' : n + m ≤ 4611686018427387904) (hbase : base ≤ W.heap.size)
    (h : ∀ v' w', OwnP p w' base e size v' (n + m) → W.grownBy w' v.ownBlock → wpList P ops Q rest (a.put o.dst v') w') : wpList P ops Q (o :: rest) a (W.alloc (.cells cs t')) := by
  obtain ⟨xs, hown, hi⟩ := hown
  exact app_lit hE hgd s x ho W cs t' base v n xs hs b m c hx hb hcs (fun u hu => hp1 u (hci u hu)) hown hn (by unfold maxLen; omega) hbase fun v' w' h1 h2 => h v' w' (OwnP.snoc h1 hi hci) h2
theorem isI_one (u : Value) (h : isI u) : u.oneCell' = true := by obtain ⟨x, rfl⟩ := h; rfl
theorem isS_one {K : Nat} (u : Value) (h : isS K u) : u.oneCell' = true := by obtain ⟨x, rfl, _⟩ := h; rfl
theorem app_i {P : Program} {ops : Array Oper} {rest : List Oper} {o : Oper} {a : Act} {Q : Exit → Act → World → Prop} {t e size bytes : Nat} (hE : Elt P t e size bytes) (hgd : o.guard = none) (s x : Operand)
    (ho : o.op = .call { callee := .builtin .append, args := #[s, x], argTypes := #[t, t] }) (W w : World) (cs : Array Value) (t' : TypeId) (v : Value) (n : Nat) (hs : a.eval s = v) (b m c B g M : Nat)
    (hx : a.eval x = .slice (some ⟨b, 0, none⟩) m c) (hb : b = W.heap.size) (hcs : cs.size = m * size) (hci : ∀ u ∈ cs.toList, isI u) (hown : OwnI W w.heap.size e size v n) (hR : Rd B g M W) (hF : Fr w g W) (hg : g < w.heap.size) (hn : (n + m) * bytes ≤ 140737488355328) (hn' : n + m ≤ 4611686018427387904)
    (h : ∀ v' w', OwnI w' w.heap.size e size v' (n + m) → Rd B g M w' → Fr w g w' → wpList P ops Q rest (a.put o.dst v') w') : wpList P ops Q (o :: rest) a (W.alloc (.cells cs t')) := by
  obtain ⟨xs, hown, hi⟩ := hown
  exact app_d hE hgd s x ho W w cs t' v n xs hs b m c B g M hx hb hcs (fun u hu => isI_one u (hci u hu)) hown hR hF hg hn hn' fun v' w' h1 h2 h3 => h v' w' (OwnP.snoc h1 hi hci) h2 h3

/-- A reader is made. -/
def Opened (B : Nat) (w : World) (e : Ending) (w' : World) : Prop := ∃ g : Nat, e = .returned (.pointer (some ⟨g, 0, none⟩)) ∧ w.heap.size ≤ g ∧ Rd B g 0 w' ∧ Below w.heap.size w w'
theorem c_l20Open (A : Option Addr) (n c B : Nat) (w : World) (hB : B ≤ w.heap.size) (hb : Bytes B A n w) (hc : n ≤ c) (hn : n ≤ 140737488351232) :
    Calls Tryz.prog 11 #[.slice A n c] w (Opened B w) := by
  have hin : ∀ (m : Nat), m ≤ n → m ≤ 2000 → Rd B w.heap.size 0 (w.alloc (.cells #[.slice A m c, .int .i64 0] 51)) := fun m hm hm' =>
    ⟨A, m, c, 0, Blk.new w _ _, hB, hm', Nat.le_refl _, Bytes.keep (fun h0 => by
      obtain ⟨ad, e, ha, hx⟩ := hb (by omega)
      exact ⟨ad, e, ha, fun i hi => hx i (by omega)⟩) fun q hq => World.cell?_of_block (Below.heap_alloc _ _ _ (by omega))⟩
  by_cases h : 2000 < n
  · have hd : decide (2000 < n) = true := decide_eq_true h
    have hr := hin 2000 (by omega) (by omega)
    go_enter Tryz.func11, Tryz.ntmps11
    go_wp2
    go_ret
    exact ⟨_, rfl, Nat.le_refl _, hr, (Below.refl _ _).alloc (Nat.le_refl _) _⟩
  · have hd : decide (2000 < n) = false := decide_eq_false h
    have hr := hin n (by omega) (by omega)
    go_enter Tryz.func11, Tryz.ntmps11
    go_wp2
    go_ret
    exact ⟨_, rfl, Nat.le_refl _, hr, (Below.refl _ _).alloc (Nat.le_refl _) _⟩
end Go.Proofs.YtlofelnfcdbedaaGreat.S
namespace Go.Proofs.YtlofelnfcdbedaaGreat.S
open Go.RowKit Go.BigFrame Go.Sort
set_option linter.unusedVariables false
set_option linter.unusedSimpArgs false

def bs (l : List UInt8) : ByteArray := ⟨l.toArray⟩
theorem bs_append (a b : List UInt8) : bs a ++ bs b = bs (a ++ b) := by
  apply ByteArray.ext
  simp [bs, ByteArray.data_append]
theorem bs_size (a : List UInt8) : (bs a).size = a.length := by simp [bs, ByteArray.size]
/-- string(b) of a new literal of one byte. -/
theorem conv_one {P : Program} (src dst e : TypeId) (hs : P.underlying src = some (.slice e)) (he : P.underlying e = some (.int .u8)) (hd : P.underlying dst = some .string) (W : World) (b c : Nat) (x : Int) (hc : W.cell? ⟨b, 0, none⟩ = some (.int .u8 x)) :
    (convert src dst (.slice (some ⟨b, 0, none⟩) 1 c)).run P W = .ok (.string (bs [UInt8.ofNat x.toNat])) W := by
  have := run_convert_bytes_arg (P := P) W src e hs he b 0 1 c [x] rfl (fun i hi => by
    obtain rfl : i = 0 := by omega
    simpa using hc) dst hd
  simpa [strOfNums, bs] using this
theorem conv_new {P : Program} (src dst e : TypeId) (hs : P.underlying src = some (.slice e)) (he : P.underlying e = some (.int .u8)) (hd : P.underlying dst = some .string) (W : World) (c : Nat) (x : Int) :
    (convert src dst (.slice (some ⟨W.heap.size, 0, none⟩) 1 c)).run P (W.alloc (.cells #[.int .u8 x] e)) = .ok (.string (bs [UInt8.ofNat x.toNat])) (W.alloc (.cells #[.int .u8 x] e)) :=
  conv_one src dst e hs he hd _ _ c x (by simp)
theorem conv_new_d {P : Program} (src dst e : TypeId) (hs : P.underlying src = some (.slice e)) (he : P.underlying e = some (.int .u8)) (hd : P.underlying dst = some .string) (W : World) (c : Nat) (x : Int) :
    (convert src dst (.slice (some ⟨W.heap.size, 0, none⟩) 1 c)).run P (W.alloc (.cells #[.int .u8 x] e)).drew = .ok (.string (bs [UInt8.ofNat x.toNat])) (W.alloc (.cells #[.int .u8 x] e)).drew :=
  conv_one src dst e hs he hd _ _ c x (by simp)
theorem itoa_nat (n : Nat) : Lib.itoa (n : Int) = Lib.decDigits n := by simp [Lib.itoa]
theorem dig_small {n : Nat} (h : n < 10) : Lib.decDigits n = [UInt8.ofNat (48 + n)] := by rw [Lib.decDigits, dif_pos h]
theorem dig_big {n : Nat} (h : ¬ n < 10) : Lib.decDigits n = Lib.decDigits (n / 10) ++ [UInt8.ofNat (48 + n % 10)] := by rw [Lib.decDigits, dif_neg h]
theorem dig_len : ∀ (k n : Nat), n < 10 ^ (k + 1) → (Lib.decDigits n).length ≤ k + 1
  | 0, n, h => by rw [dig_small (by simpa using h)]; simp
  | k + 1, n, h => by
    by_cases h' : n < 10
    · rw [dig_small h']; simp
    · rw [dig_big h', List.length_append]
      have := dig_len k (n / 10) (by rw [Nat.pow_succ] at h; omega)
      simp; omega
theorem dec_join {n d m : Nat} (h : n = 10 * d + m) (hm : m < 10) (hn : 10 ≤ n) : bs (Lib.itoa (d : Int)) ++ bs [48 + UInt8.ofNat m] = bs (Lib.itoa (n : Int)) := by
  rw [show (48 + UInt8.ofNat m : UInt8) = UInt8.ofNat (48 + m) by simp [UInt8.ofNat_add], bs_append, itoa_nat, itoa_nat, dig_big (n := n) (by omega), show n / 10 = d by omega, show n % 10 = m by omega]
theorem dec_neg {m : Nat} (h : 0 < m) : (⟨#[45]⟩ : ByteArray) ++ bs (Lib.itoa (m : Int)) = bs (Lib.itoa (-(m : Int))) := by
  have e : Lib.itoa (-(m : Int)) = 45 :: Lib.decDigits m := by unfold Lib.itoa; rw [if_pos (by omega)]; simp
  rw [e, itoa_nat]
  exact bs_append [45] _
def DecOk (n : Int) (w : World) (e : Ending) (w' : World) : Prop := e = .returned (.string (bs (Lib.itoa n))) ∧ Below w.heap.size w w'
/-- Some number between two others comes back, and nothing has turned. -/
def SomeInt (lo hi : Int) (w : World) (e : Ending) (w' : World) : Prop := ∃ r : Int, e = .returned (.int .i64 r) ∧ lo ≤ r ∧ r ≤ hi ∧ w = w'
theorem ten_le {k : Nat} (h : k ≤ 10) : (10 : Nat) ^ k ≤ 10000000000 := Nat.pow_le_pow_right (by omega) h
/-- New words come back. -/
def Words (n : Nat) (w : World) (e : Ending) (w' : World) : Prop := ∃ b c, e = .returned (.slice (some ⟨b, 0, none⟩) n c) ∧ OwnP (isS 8) w' w.heap.size 9 1 (.slice (some ⟨b, 0, none⟩) n c) n ∧ Below w.heap.size w w'
def SomeTwo (lo hi : Int) (w : World) (e : Ending) (w' : World) : Prop := ∃ r q : Int, e = .returned (.tuple #[.int .i64 r, .int .i64 q]) ∧ lo ≤ r ∧ r ≤ hi ∧ lo ≤ q ∧ q ≤ hi ∧ w = w'
structure In where
  op : Int
  dst : Int
  src : Int
  off : Int
  imm : Int
  sz : Int
def In.cs (x : In) : Array Value := #[.int .i64 x.op, .int .i64 x.dst, .int .i64 x.src, .int .i64 x.off, .int .i64 x.imm, .int .i64 x.sz]
abbrev In.v (x : In) : Value := .agg #[.int .i64 x.op, .int .i64 x.dst, .int .i64 x.src, .int .i64 x.off, .int .i64 x.imm, .int .i64 x.sz]
def szB (n : Int) : Bool := n == 1 || n == 2 || n == 4
def eiB (x : In) : Bool := decide (x.src < 0) || x.imm == 0
def bareB (x : In) : Bool :=
  if inB x.op 1 11 then x.off == 0 && x.sz == 0 && eiB x
  else if inB x.op 12 15 then x.sz == 0 && eiB x
  else if x.op == 16 then x.dst == 0 && x.src == -1 && x.imm == 0 && x.sz == 0
  else if x.op == 17 then decide (x.src ≥ 0) && x.imm == 0 && szB x.sz
  else if x.op == 18 then eiB x && szB x.sz
  else if x.op == 19 then x.dst == 0 && x.src == -1 && x.off == 0 && x.sz == 0 && inB x.imm 1 6
  else if x.op == 20 then x.dst == 0 && x.src == -1 && x.off == 0 && x.imm == 0 && x.sz == 0
  else false
theorem below_step {w W W' : World} (h : Below w.heap.size w W) (h' : Below W.heap.size W W') : Below w.heap.size w W' := h.trans (h'.mono h.size)
theorem below_new (w : World) (o : Obj) : Below w.heap.size w (w.alloc o) := (Below.refl _ _).alloc (Nat.le_refl _) _
theorem below_alloc {w W : World} (h : Below w.heap.size w W) (o : Obj) : Below w.heap.size w (W.alloc o) := h.alloc h.size o
theorem below_drewN {w W : World} (h : Below w.heap.size w W) (n : Nat) : Below w.heap.size w (W.drewN n) := ⟨h.os, h.tape, h.output, h.size, h.block⟩
theorem below_drew {w W : World} (h : Below w.heap.size w W) : Below w.heap.size w W.drew := ⟨h.os, h.tape, h.output, h.size, h.block⟩
theorem below_set {w W : World} (h : Below w.heap.size w W) {p : Addr} (hp : w.heap.size ≤ p.block) (u : Value) : Below w.heap.size w (W.setCell p u) := h.setCell hp u
def insB (x : In) : Bool := inB x.dst 0 10 && inB x.src (-1) 10 && inB x.off (-128) 127 && inB x.imm 0 4294967295 && bareB x
theorem itoa_len (n : Int) (h1 : -1000000000000000000 ≤ n) (h2 : n ≤ 1000000000000000000) : (bs (Lib.itoa n)).size ≤ 20 := by
  rw [bs_size]
  unfold Lib.itoa
  split
  · have := dig_len 18 n.natAbs (by omega)
    simp; omega
  · have := dig_len 18 n.toNat (by omega)
    omega
/-- A text comes back, of so many bytes at most. -/
def SomeStr (K : Nat) (w : World) (e : Ending) (w' : World) : Prop := ∃ s : ByteArray, e = .returned (.string s) ∧ s.size ≤ K ∧ Below w.heap.size w w'
def regS (src imm : Int) : ByteArray := if src ≥ 0 then (⟨#[114]⟩ : ByteArray) ++ bs (Lib.itoa src) else bs (Lib.itoa imm)
theorem regS_len (src imm : Int) (h1 : -1 ≤ src) (h2 : src ≤ 4294967296) (h3 : -4294967296 ≤ imm) (h4 : imm ≤ 4294967296) : (regS src imm).size ≤ 21 := by
  unfold regS
  split
  · have := itoa_len src (by omega) (by omega)
    rw [ByteArray.size_append]
    show 1 + _ ≤ _
    omega
  · have := itoa_len imm (by omega) (by omega)
    omega
theorem insB_of {op dst src off imm sz : Int} (h : insB ⟨op, dst, src, off, imm, sz⟩ = true) : 0 ≤ dst ∧ dst ≤ 10 ∧ -1 ≤ src ∧ src ≤ 10 ∧ -128 ≤ off ∧ off ≤ 127 ∧ 0 ≤ imm ∧ imm ≤ 4294967295 ∧ 1 ≤ op ∧ op ≤ 20 ∧ 0 ≤ sz ∧ sz ≤ 4 ∧ (op = 19 → 1 ≤ imm ∧ imm ≤ 6) ∧ (op = 17 → 0 ≤ src) := by
  simp only [insB, Bool.and_eq_true, inB_true] at h
  obtain ⟨⟨⟨⟨h1, h2⟩, h3⟩, h4⟩, h5⟩ := h
  have h6 : 1 ≤ op ∧ op ≤ 20 ∧ 0 ≤ sz ∧ sz ≤ 4 ∧ (op = 19 → 1 ≤ imm ∧ imm ≤ 6) ∧ (op = 17 → 0 ≤ src) := by
    unfold bareB at h5
    simp only [szB] at h5
    (repeat' split at h5) <;> simp only [inB_true, Bool.and_eq_true, Bool.or_eq_true, beq_iff_eq, decide_eq_true_eq, Bool.false_eq_true] at * <;> omega
  omega
theorem Blk.drew {w : World} {g : Nat} {t : TypeId} {cs : Array Value} (h : Blk w g t cs) : Blk w.drew g t cs := h
theorem Blk.bl {w w' : World} {g : Nat} {t : TypeId} {cs : Array Value} (h : Blk w g t cs) (hb : Below w.heap.size w w') : Blk w' g t cs := h.grown (gr_of_below hb none) (by simp)
theorem Blk.cells6 {w : World} {g : Nat} {t : TypeId} {a b c d e f : Value} (h : Blk w g t #[a, b, c, d, e, f]) : w.cell? ⟨g, 0, none⟩ = some a ∧ w.cell? ⟨g, 1, none⟩ = some b ∧ w.cell? ⟨g, 2, none⟩ = some c ∧ w.cell? ⟨g, 3, none⟩ = some d ∧ w.cell? ⟨g, 4, none⟩ = some e ∧ w.cell? ⟨g, 5, none⟩ = some f :=
  ⟨h.cell 0, h.cell 1, h.cell 2, h.cell 3, h.cell 4, h.cell 5⟩
theorem Blk.later {w : World} {g : Nat} {t : TypeId} {cs : Array Value} (h : Blk w g t cs) (i : Nat) (d : Nat) (os : Array Obj) : (grow (redrawn w d) os).cell? ⟨g, i, none⟩ = cs[i]? := (h.bl (below_regrown w d os)).cell i
theorem lsz1 (a : UInt8) : (⟨#[a]⟩ : ByteArray).size = 1 := rfl
theorem lsz2 (a b : UInt8) : (⟨#[a, b]⟩ : ByteArray).size = 2 := rfl
theorem lsz4 (a b c d : UInt8) : (⟨#[a, b, c, d]⟩ : ByteArray).size = 4 := rfl
theorem lsz5 (a b c d e : UInt8) : (⟨#[a, b, c, d, e]⟩ : ByteArray).size = 5 := rfl
/-- An op comes back. -/
def SomeIns (w : World) (e : Ending) (w' : World) : Prop := ∃ x : In, e = .returned x.v ∧ Below w.heap.size w w'
/-- Words of a text come back. -/
def Cut (K : Nat) (w : World) (e : Ending) (w' : World) : Prop := ∃ v n, e = .returned v ∧ 1 ≤ n ∧ n ≤ 100 ∧ OwnP (isS K) w' w.heap.size 9 1 v n ∧ Below w.heap.size w w'
theorem below_app {p : Value → Prop} {w W W' : World} {e : TypeId} {size : Nat} {v : Value} {n : Nat} (hB : Below w.heap.size w W) (hO : OwnP p W w.heap.size e size v n) (hG : W.grownBy W' v.ownBlock) : Below w.heap.size w W' :=
  hB.grown hG hB.size fun k hk => (hO.lt k hk).1
theorem elt_string : Elt Tryz.prog 83 9 1 16 := elt_of (z := .string ⟨#[]⟩) Tryz.underlying83 (by kernel_rfl) rfl (by decide)
/-- At g lie six numbers: an op. -/
def InsAt (w : World) (g : Nat) : Prop := ∃ a b c d e f : Int, Blk w g 85 #[.int .i64 a, .int .i64 b, .int .i64 c, .int .i64 d, .int .i64 e, .int .i64 f]
theorem InsAt.of {w : World} {g : Nat} {a b c d e f : Int} (h : Blk w g 85 #[.int .i64 a, .int .i64 b, .int .i64 c, .int .i64 d, .int .i64 e, .int .i64 f]) : InsAt w g := ⟨a, b, c, d, e, f, h⟩
theorem InsAt.alloc {w : World} {g : Nat} (h : InsAt w g) (o : Obj) : InsAt (w.alloc o) g := by
  obtain ⟨a, b, c, d, e, f, h⟩ := h
  exact ⟨a, b, c, d, e, f, h.alloc o⟩
theorem InsAt.new (w : World) (a b c d e f : Int) : InsAt (w.alloc (.cells #[.int .i64 a, .int .i64 b, .int .i64 c, .int .i64 d, .int .i64 e, .int .i64 f] 85)) w.heap.size := .of (Blk.new w _ _)
theorem InsAt.bl {w w' : World} {g : Nat} (h : InsAt w g) (hb : Below w.heap.size w w') : InsAt w' g := by
  obtain ⟨a, b, c, d, e, f, h⟩ := h
  exact ⟨a, b, c, d, e, f, h.bl hb⟩
theorem InsAt.set {w : World} {g : Nat} (h : InsAt w g) (i : Nat) (x : Int) : InsAt (w.setCell ⟨g, i, none⟩ (.int .i64 x)) g := by
  obtain ⟨a, b, c, d, e, f, h⟩ := h
  have := h.set_ i (.int .i64 x)
  match i, this with
  | 0, h => exact ⟨_, _, _, _, _, _, h⟩
  | 1, h => exact ⟨_, _, _, _, _, _, h⟩
  | 2, h => exact ⟨_, _, _, _, _, _, h⟩
  | 3, h => exact ⟨_, _, _, _, _, _, h⟩
  | 4, h => exact ⟨_, _, _, _, _, _, h⟩
  | 5, h => exact ⟨_, _, _, _, _, _, h⟩
  | i + 6, h => exact ⟨a, b, c, d, e, f, by rw [Array.setIfInBounds_eq_of_size_le (by simp)] at h; exact h⟩
theorem cell_alloc {w : World} {a : Addr} {v : Value} (h : w.cell? a = some v) (o : Obj) : (w.alloc o).cell? a = some v := cell_below (below_new w o) a v h
theorem cell_set {w : World} {a p : Addr} {v : Value} (h : w.cell? a = some v) (u : Value) (hp : a.block ≠ p.block) : (w.setCell p u).cell? a = some v := (World.cell?_of_block (Below.heap_setCell w p u _ hp)).trans h
theorem cell_drew {w : World} {a : Addr} {v : Value} (h : w.cell? a = some v) : w.drew.cell? a = some v := h
theorem eqS {a b : ByteArray} (h : (a.toList == b.toList) = true) : a = b := by
  have e := eq_of_beq h
  rw [ByteArray.toList_eq, ByteArray.toList_eq] at e
  exact ByteArray.ext (Array.ext' e)
/-- What a part of reading an op has left: a new op at g3, a new one at the result's place. -/
def Reading (w : World) (g2 g3 : Nat) (W : World) : Prop := InsAt W g3 ∧ InsAt W g2 ∧ g2 ≠ g3 ∧ w.heap.size ≤ g2 ∧ w.heap.size ≤ g3 ∧ Below w.heap.size w W
theorem Reading.mk' {w W : World} {g2 g3 : Nat} (h1 : InsAt W g3) (h2 : InsAt W g2) (h3 : g2 ≠ g3) (h4 : w.heap.size ≤ g2) (h5 : w.heap.size ≤ g3) (h6 : Below w.heap.size w W) : Reading w g2 g3 W := ⟨h1, h2, h3, h4, h5, h6⟩
theorem Reading.drew {w W : World} {g2 g3 : Nat} (h : Reading w g2 g3 W) : Reading w g2 g3 W.drew := ⟨h.1, h.2.1, h.2.2.1, h.2.2.2.1, h.2.2.2.2.1, below_drew h.2.2.2.2.2⟩
theorem Reading.bl {w W W' : World} {g2 g3 : Nat} (h : Reading w g2 g3 W) (hb : Below W.heap.size W W') : Reading w g2 g3 W' :=
  ⟨h.1.bl hb, h.2.1.bl hb, h.2.2.1, h.2.2.2.1, h.2.2.2.2.1, below_step h.2.2.2.2.2 hb⟩
theorem InsAt.far {w : World} {g : Nat} (h : InsAt w g) {p : Addr} (hp : g ≠ p.block) (u : Value) : InsAt (w.setCell p u) g := by
  obtain ⟨a, b, c, d, e, f, h⟩ := h
  exact ⟨a, b, c, d, e, f, h.far hp u⟩
theorem Reading.set {w W : World} {g2 g3 : Nat} (h : Reading w g2 g3 W) (i : Nat) (x : Int) : Reading w g2 g3 (W.setCell ⟨g3, i, none⟩ (.int .i64 x)) :=
  ⟨h.1.set i x, h.2.1.far h.2.2.1 _, h.2.2.1, h.2.2.2.1, h.2.2.2.2.1, below_set h.2.2.2.2.2 h.2.2.2.2.1 _⟩
def cd1 : Code → Code
  | .seq a _ => a
  | c => c
def cd2 : Code → Code
  | .seq _ b => b
  | c => c
theorem rd_use {P : Program} {c : Code} {Q : Exit → Act → World → Prop} {F : Func} {Post : Ending → World → Prop} {a : Act} {w : World} (h : c.wp P (Exit.then (fun a w => Q .normal a w) (bodyPost P F Post)) a w) (hq : ∀ e a w, e ≠ .normal → bodyPost P F Post e a w → Q e a w) : c.wp P Q a w :=
  wp_mono h fun e a w h => by
    cases e with
    | normal => exact h
    | _ => exact hq _ _ _ (by simp) h
/-- An op comes back, and whether it is one. -/
def SomeGot (w : World) (e : Ending) (w' : World) : Prop := ∃ (x : In) (ok : Bool), e = .returned (.tuple #[x.v, .bool ok]) ∧ Below w.heap.size w w'
theorem Blk.six {W : World} {g : Nat} {t : TypeId} {p q r s u v : Value} (h : Blk W g t #[p, q, r, s, u, v]) (a b c d e f : Value) : Blk ((((((W.setCell ⟨g, 0, none⟩ a).setCell ⟨g, 1, none⟩ b).setCell ⟨g, 2, none⟩ c).setCell ⟨g, 3, none⟩ d).setCell ⟨g, 4, none⟩ e).setCell ⟨g, 5, none⟩ f) g t #[a, b, c, d, e, f] :=
  ((((((h.set_ 0 a).set_ 1 b).set_ 2 c).set_ 3 d).set_ 4 e).set_ 5 f)
theorem below_six {w W : World} {g : Nat} (h : Below w.heap.size w W) (hg : w.heap.size ≤ g) (a b c d e f : Value) : Below w.heap.size w ((((((W.setCell ⟨g, 0, none⟩ a).setCell ⟨g, 1, none⟩ b).setCell ⟨g, 2, none⟩ c).setCell ⟨g, 3, none⟩ d).setCell ⟨g, 4, none⟩ e).setCell ⟨g, 5, none⟩ f) :=
  below_set (below_set (below_set (below_set (below_set (below_set h hg _) hg _) hg _) hg _) hg _) hg _
theorem elt_Ins : Elt Tryz.prog 44 85 6 48 :=
  elt_of (z := .agg #[.int .i64 0, .int .i64 0, .int .i64 0, .int .i64 0, .int .i64 0, .int .i64 0]) Tryz.underlying44 (by kernel_rfl) rfl (by decide)
/-- A program comes back. -/
def SomeProg (w : World) (m : Nat) (e : Ending) (w' : World) : Prop := ∃ v, e = .returned v ∧ OwnI w' w.heap.size 85 6 v m ∧ Below w.heap.size w w'
def isW (K : Nat) : Value → Bool
  | .string s => decide (s.size ≤ K)
  | _ => false
theorem isW_of {K : Nat} {v : Value} (h : isW K v = true) : isS K v := by
  unfold isW at h
  split at h
  · exact ⟨_, rfl, of_decide_eq_true h⟩
  · cases h
theorem atP_lit (K : Nat) (W : World) (cs : Array Value) (t : TypeId) (n b : Nat) (hb : b = W.heap.size) (hn : cs.size = n) (h : cs.toList.all (isW K) = true) : AtP (isS K) (W.alloc (.cells cs t)) (some ⟨b, 0, none⟩) n 1 := fun _ => ⟨_, rfl, fun i hi => by
  subst hb
  have hb := Blk.new W t cs
  rw [add_plain, hb.cell i]
  exact ⟨_, isW_of (List.all_eq_true.1 h _ (Array.mem_toList_iff.2 (Array.getElem_mem (show i < cs.size by omega)))), Array.getElem?_eq_getElem (by omega)⟩⟩
/-- Rows of words. -/
def Lines (w : World) (e : Ending) (w' : World) : Prop := ∃ b c : Nat, e = .returned (.slice (some ⟨b, 0, none⟩) 15 c) ∧ w.heap.size ≤ b ∧ (∀ i, i < 15 → ∃ (a n c : Nat), w'.cell? ⟨b, i, none⟩ = some (.slice (some ⟨a, 0, none⟩) n c) ∧ w.heap.size ≤ a ∧ 1 ≤ n ∧ n ≤ 13 ∧ AtP (isS 20) w' (some ⟨a, 0, none⟩) n 1) ∧ Below w.heap.size w w'
def AllRows (B : Nat) (W : World) : List Value → Prop
  | [] => True
  | v :: l => (∃ (a n c : Nat), v = .slice (some ⟨a, 0, none⟩) n c ∧ B ≤ a ∧ 1 ≤ n ∧ n ≤ 13 ∧ AtP (isS 20) W (some ⟨a, 0, none⟩) n 1) ∧ AllRows B W l
theorem AllRows.at_ {B : Nat} {W : World} : ∀ {l : List Value}, AllRows B W l → ∀ i, i < l.length → ∃ (a n c : Nat), l[i]? = some (.slice (some ⟨a, 0, none⟩) n c) ∧ B ≤ a ∧ 1 ≤ n ∧ n ≤ 13 ∧ AtP (isS 20) W (some ⟨a, 0, none⟩) n 1
  | v :: l, h, 0, _ => by
    obtain ⟨⟨A, n, c, rfl, h1, h2, h3⟩, _⟩ := h
    exact ⟨A, n, c, rfl, h1, h2, h3⟩
  | v :: l, h, i + 1, hi => by
    obtain ⟨A, n, c, h0, h1, h2, h3⟩ := AllRows.at_ h.2 i (by simpa using hi)
    exact ⟨A, n, c, by simpa using h0, h1, h2, h3⟩
theorem lines_of {w W : World} {b c : Nat} (cs : Array Value) (t : TypeId) (hb : b = W.heap.size) (hs : cs.size = 15) (h : AllRows w.heap.size W cs.toList) (hB : Below w.heap.size w W) : Lines w (.returned (.slice (some ⟨b, 0, none⟩) 15 c)) (W.alloc (.cells cs t)) := by
  subst hb
  refine ⟨_, _, rfl, hB.size, fun i hi => ?_, below_alloc hB _⟩
  obtain ⟨A, n, c, h0, h1, h2, h3, h4⟩ := h.at_ i (by simpa [hs] using hi)
  exact ⟨A, n, c, by rw [(Blk.new W t cs).cell i]; simpa using h0, h1, h2, h3, h4.alloc _⟩
theorem AtP.gr {p : Value → Prop} {w w' : World} {a n size g : Nat} (h : AtP p w (some ⟨a, 0, none⟩) n size) (hg : w.grownBy w' (some g)) (hne : a ≠ g) : AtP p w' (some ⟨a, 0, none⟩) n size := fun hn => by
  obtain ⟨ad, e, hc⟩ := h hn
  injection e with e
  subst e
  exact ⟨_, rfl, fun i hi => by
    obtain ⟨u, hu, hx⟩ := hc i hi
    rw [add_plain] at hx ⊢
    exact ⟨u, hu, hg.cell hx (by simpa using hne)⟩⟩
/-- An op is drawn. -/
def InsDrawn (B g M K : Nat) (w : World) (e : Ending) (w' : World) : Prop := ∃ x : In, e = .returned x.v ∧ Rd B g (M + K) w' ∧ Fr w g w'
theorem Rd.six {B g M : Nat} {W : World} (h : Rd B g M W) {k : Nat} (hg : g < k) (a b c d e f : Value) : Rd B g M ((((((W.setCell ⟨k, 0, none⟩ a).setCell ⟨k, 1, none⟩ b).setCell ⟨k, 2, none⟩ c).setCell ⟨k, 3, none⟩ d).setCell ⟨k, 4, none⟩ e).setCell ⟨k, 5, none⟩ f) :=
  (((((h.set a hg).set b hg).set c hg).set d hg).set e hg).set f hg
theorem Fr.six {w W : World} {g : Nat} (h : Fr w g W) {k : Nat} (hg : w.heap.size ≤ k) (a b c d e f : Value) : Fr w g ((((((W.setCell ⟨k, 0, none⟩ a).setCell ⟨k, 1, none⟩ b).setCell ⟨k, 2, none⟩ c).setCell ⟨k, 3, none⟩ d).setCell ⟨k, 4, none⟩ e).setCell ⟨k, 5, none⟩ f) :=
  (((((h.set ⟨k, 0, none⟩ a hg).set ⟨k, 1, none⟩ b hg).set ⟨k, 2, none⟩ c hg).set ⟨k, 3, none⟩ d hg).set ⟨k, 4, none⟩ e hg).set ⟨k, 5, none⟩ f hg
theorem Rd.bl {B g M : Nat} {w w' : World} (h : Rd B g M w) (hb : Below w.heap.size w w') : Rd B g M w' := h.grown (gr_of_below hb none) (by simp)
def lenOf : Value → Nat
  | .slice _ n _ => n
  | _ => 0
/-- A program is drawn, of a to z ops. -/
def Progs (B g M K a z : Nat) (w : World) (e : Ending) (w' : World) : Prop := ∃ v n, e = .returned v ∧ OwnI w' w.heap.size 85 6 v n ∧ a ≤ n ∧ n ≤ z ∧ Rd B g (M + K) w' ∧ Fr w g w'
theorem atP_list {p : Value → Prop} {W : World} {ad : Addr} : ∀ (N : Nat), (∀ i, i < N → ∃ u, p u ∧ W.cell? (ad.add i) = some u) → ∃ us : List Value, us.length = N ∧ (∀ u ∈ us, p u) ∧ ∀ (j : Nat) (u : Value), us[j]? = some u → W.cell? (ad.add j) = some u
  | 0, _ => ⟨[], rfl, by simp, by simp⟩
  | N + 1, h => by
    obtain ⟨us, h1, h2, h3⟩ := atP_list N fun i hi => h i (by omega)
    obtain ⟨u, hu, hc⟩ := h N (by omega)
    refine ⟨us ++ [u], by simp [h1], fun v hv => ?_, fun j v hv => ?_⟩
    · rcases List.mem_append.1 hv with hv | hv
      · exact h2 v hv
      · rw [List.mem_singleton.1 hv]; exact hu
    · rcases Nat.lt_or_ge j us.length with hj | hj
      · rw [List.getElem?_append_left hj] at hv
        exact h3 j v hv
      · rw [List.getElem?_append_right hj] at hv
        have hj0 : j - us.length = 0 := by
          rcases Nat.eq_zero_or_pos (j - us.length) with e | e
          · exact e
          · rw [List.getElem?_eq_none (by simp; omega)] at hv
            cases hv
        rw [hj0] at hv
        simp only [List.getElem?_cons_zero, Option.some.injEq] at hv
        rw [show j = N by omega, ← hv]
        exact hc
/-- append of what a slice holds, onto a row of the call's own. -/
theorem app_src {P : Program} {ops : Array Oper} {rest : List Oper} {o : Oper} {a : Act} {Q : Exit → Act → World → Prop} {t e size bytes : Nat} (p : Value → Prop) (hp1 : ∀ u, p u → u.oneCell' = true) (hE : Elt P t e size bytes) (hgd : o.guard = none) (s x : Operand)
    (ho : o.op = .call { callee := .builtin .append, args := #[s, x], argTypes := #[t, t] }) (W : World) (base : Nat) (v : Value) (n : Nat) (hs : a.eval s = v) (ad : Addr) (m c : Nat)
    (hx : a.eval x = .slice (some ad) m c) (hsrc : ∀ i, i < m * size → ∃ u, p u ∧ W.cell? (ad.add i) = some u) (hown : OwnP p W base e size v n) (hn : (n + m) * bytes ≤ 140737488355328) (hn' : n + m ≤ 4611686018427387904) (hbase : base ≤ W.heap.size)
    (h : ∀ v' w', OwnP p w' base e size v' (n + m) → W.grownBy w' v.ownBlock → wpList P ops Q rest (a.put o.dst v') w') : wpList P ops Q (o :: rest) a W := by
  obtain ⟨xs, hown, hi⟩ := hown
  obtain ⟨us, hu1, hu2, hu3⟩ := atP_list (m * size) hsrc
  obtain ⟨i, z, hi', hz, h2, h3, h4⟩ := hE.inf
  refine wpList_append_own _ hgd s x t ho base e i z size bytes hE.und hi' hz h2 h3 h4 hE.pos v n xs hs hown _ m c us hx hu1 hu3 (fun u hu => hp1 u (hu2 u hu)) (by unfold maxLen; omega) hn hbase fun v' w' h5 h6 _ => ?_
  exact h v' w' ⟨_, h5, fun u hu => by rcases List.mem_append.1 hu with hu | hu; exact hi u hu; exact hu2 u hu⟩ h6
theorem OwnP.far {p : Value → Prop} {W W' : World} {base : Nat} {e : TypeId} {size : Nat} {v : Value} {n : Nat} {row : Option Nat} (h : OwnP p W base e size v n) (hg : W.grownBy W' row) (hne : v.ownBlock = none ∨ v.ownBlock ≠ row) : OwnP p W' base e size v n := let ⟨xs, h, hi⟩ := h; ⟨xs, h.kept hg hne, hi⟩
/-- append at a step of a region that draws its order. -/
theorem step_app_src {P : Program} {ops : Array Oper} {o : Oper} {a : Act} {K : Act → World → Prop} {Q : Exit → Act → World → Prop} {E : Prop} {t e size bytes : Nat} (p : Value → Prop) (hp1 : ∀ u, p u → u.oneCell' = true) (hE : Elt P t e size bytes) (hgd : o.guard = none) (s x : Operand)
    (ho : o.op = .call { callee := .builtin .append, args := #[s, x], argTypes := #[t, t] }) (W : World) (base : Nat) (v : Value) (n : Nat) (hs : a.eval s = v) (ad : Addr) (m c : Nat)
    (hx : a.eval x = .slice (some ad) m c) (hsrc : ∀ i, i < m * size → ∃ u, p u ∧ W.cell? (ad.add i) = some u) (hown : OwnP p W base e size v n) (hn : (n + m) * bytes ≤ 140737488355328) (hn' : n + m ≤ 4611686018427387904) (hbase : base ≤ W.heap.size)
    (h : ∀ v' w', OwnP p w' base e size v' (n + m) → W.grownBy w' v.ownBlock → K (a.put o.dst v') w') : if Region.wanted o (yielded ops a.tmps) = true then Oper.wp P o a W K Q else E := by
  have hw : Region.wanted o (yielded ops a.tmps) = true := by simp [Region.wanted, hgd]
  rw [if_pos hw]
  obtain ⟨xs, hown, hi⟩ := hown
  obtain ⟨us, hu1, hu2, hu3⟩ := atP_list (m * size) hsrc
  obtain ⟨i, z, hi', hz, h2, h3, h4⟩ := hE.inf
  obtain ⟨v', w', hr, h5, h6, _, _⟩ := run_append_own_at (P := P) W base t o.type e i z size bytes hE.und hi' hz h2 h3 h4 hE.pos v n xs hown ad m c us hu1 hu3 (fun u hu => hp1 u (hu2 u hu)) (by unfold maxLen; omega) hn hbase
  unfold Oper.wp execOp
  simp only [ho, resolve, invoke, builtin, Sem.run_bind, Sem.run_pure, Result.andThen_ok, List.map_toArray, List.map_cons, List.map_nil, hs, hx, hr]
  exact h v' w' ⟨_, h5, fun u hu => by rcases List.mem_append.1 hu with hu | hu; exact hi u hu; exact hu2 u hu⟩ h6
theorem src_new (W : World) (t : TypeId) (a b c d e f : Int) : ∀ i, i < 1 * 6 → ∃ u, isI u ∧ (W.alloc (.cells #[.int .i64 a, .int .i64 b, .int .i64 c, .int .i64 d, .int .i64 e, .int .i64 f] t)).cell? ((⟨W.heap.size, 0, none⟩ : Addr).add i) = some u := fun i hi => by
  rw [add_plain, (Blk.new W t _).cell i]
  match i, hi with
  | 0, _ => exact ⟨_, ⟨a, rfl⟩, rfl⟩
  | 1, _ => exact ⟨_, ⟨b, rfl⟩, rfl⟩
  | 2, _ => exact ⟨_, ⟨c, rfl⟩, rfl⟩
  | 3, _ => exact ⟨_, ⟨d, rfl⟩, rfl⟩
  | 4, _ => exact ⟨_, ⟨e, rfl⟩, rfl⟩
  | 5, _ => exact ⟨_, ⟨f, rfl⟩, rfl⟩
theorem add_at (g k n : Nat) : (⟨g, k, none⟩ : Addr).add n = ⟨g, k + n, none⟩ := by unfold Addr.add; split <;> simp_all
theorem src_rest {W : World} {base : Nat} {e : TypeId} {b n c i : Nat} (h : OwnI W base e 6 (.slice (some ⟨b, 0, none⟩) n c) n) (hi : i ≤ n) : ∀ j, j < (n - i) * 6 → ∃ u, isI u ∧ W.cell? ((⟨b, i * 6, none⟩ : Addr).add j) = some u := fun j hj => by
  obtain ⟨x, hx⟩ := h.cell (i * 6 + j) (by omega)
  exact ⟨_, ⟨x, rfl⟩, by rw [add_at]; exact hx⟩
theorem shl_ok {a k : Int} (h0 : 0 ≤ a) (h1 : a ≤ 255) (hk0 : 0 ≤ k) (hk : k ≤ 24) : 0 ≤ wrap64 (a * 2 ^ k.toNat) ∧ wrap64 (a * 2 ^ k.toNat) ≤ 4294967295 := by
  have h2 : (2 : Nat) ^ k.toNat ≤ 2 ^ 24 := Nat.pow_le_pow_right (by decide) (by omega)
  have h3 : ((2 : Int) ^ k.toNat) = ((2 ^ k.toNat : Nat) : Int) := by simp
  rw [h3]
  generalize 2 ^ k.toNat = t at h2
  have h4 : a * (t : Int) ≤ 255 * 16777216 := Int.mul_le_mul h1 (by omega) (by omega) (by decide)
  have h5 : 0 ≤ a * (t : Int) := Int.mul_nonneg h0 (by omega)
  unfold wrap64
  omega
/-- A number is drawn. -/
def NumDrawn (B g M K : Nat) (w : World) (e : Ending) (w' : World) : Prop := ∃ r : Int, e = .returned (.int .i64 r) ∧ 0 ≤ r ∧ r ≤ 4294967295 ∧ Rd B g (M + K) w' ∧ Fr w g w'
def isB (u : Value) : Prop := ∃ x : Int, u = .int .u8 x
theorem isB_one (u : Value) (h : isB u) : u.oneCell' = true := by obtain ⟨x, rfl⟩ := h; rfl
theorem nums_of {W : World} {b : Nat} : ∀ (N : Nat), (∀ i, i < N → ∃ x : Int, W.cell? ⟨b, i, none⟩ = some (.int .u8 x)) → ∃ xs : List Int, xs.length = N ∧ ∀ i, i < N → W.cell? ⟨b, i, none⟩ = some (.int .u8 (xs.getD i 0))
  | 0, _ => ⟨[], rfl, fun i hi => absurd hi (by omega)⟩
  | N + 1, h => by
    obtain ⟨xs, h1, h2⟩ := nums_of N fun i hi => h i (by omega)
    obtain ⟨x, hx⟩ := h N (by omega)
    refine ⟨xs ++ [x], by simp [h1], fun i hi => ?_⟩
    rcases Nat.lt_or_ge i N with hl | hl
    · rw [h2 i hl]
      simp [List.getD, List.getElem?_append_left (show i < xs.length by omega)]
    · have e : i = N := by omega
      subst e
      rw [hx]
      simp [List.getD, ← h1]
/-- A text of bytes that the call owns. -/
theorem text_of {W : World} {base : Nat} {e : TypeId} {A : Option Addr} {n c : Nat} (h : OwnP isB W base e 1 (.slice A n c) n) : ∃ s : ByteArray, s.size = n ∧ (convert 22 9 (.slice A n c)).run Tryz.prog W = .ok (.string s) W := by
  have hu := Tryz.underlying22
  have hb := Tryz.underlying5
  have ht := Tryz.underlying9
  rcases Nat.eq_zero_or_pos n with rfl | hn
  · have hz : ∀ (g : Nat), (convert 22 9 (.slice (some ⟨g, 0, none⟩) 0 c)).run Tryz.prog W = .ok (.string (strOfNums [])) W := fun g => run_convert_bytes_arg W _ _ hu hb g 0 0 c [] rfl (fun i hi => absurd hi (by omega)) _ ht
    obtain ⟨xs, ⟨h1, h2⟩, hi⟩ := h
    rcases h2 with ⟨hv, _⟩ | ⟨g, cap, cur, hv, _⟩
    · simp only [Value.slice.injEq] at hv
      obtain ⟨rfl, _, rfl⟩ := hv
      exact ⟨_, rfl, run_convert_bytes_nil W _ _ hu hb _ _ _ ht⟩
    · simp only [Value.slice.injEq] at hv
      obtain ⟨rfl, _, rfl⟩ := hv
      exact ⟨_, strOfNums_size [], hz g⟩
  · obtain ⟨b, cap, hv, _, _⟩ := h.form hn
    simp only [Value.slice.injEq] at hv
    obtain ⟨rfl, _, rfl⟩ := hv
    obtain ⟨xs, hx1, hx2⟩ := nums_of (W := W) (b := b) n fun i hi => by
      obtain ⟨u, ⟨x, rfl⟩, hc⟩ := h.at_ i (by omega)
      exact ⟨x, hc⟩
    exact ⟨_, by rw [strOfNums_size, hx1], run_convert_bytes_arg W _ _ hu hb _ 0 n c xs hx1 (fun i hi => by rw [Nat.zero_add]; exact hx2 i hi) _ ht⟩
theorem elt_byte : Elt Tryz.prog 22 5 1 1 :=
  elt_of (z := .int .u8 0) Tryz.underlying22 (by kernel_rfl) rfl (by decide)
theorem Blk.cells5 {w : World} {g : Nat} {t : TypeId} {a b c d e : Value} (h : Blk w g t #[a, b, c, d, e]) : w.cell? ⟨g, 0, none⟩ = some a ∧ w.cell? ⟨g, 1, none⟩ = some b ∧ w.cell? ⟨g, 2, none⟩ = some c ∧ w.cell? ⟨g, 3, none⟩ = some d ∧ w.cell? ⟨g, 4, none⟩ = some e :=
  ⟨h.cell 0, h.cell 1, h.cell 2, h.cell 3, h.cell 4⟩
/-- A table, as a value. -/
abbrev tabV (k s r : Int) (kv vv : Value) : Value := .agg #[.int .i64 k, .int .i64 s, .int .i64 r, kv, vv]
def shB (k s r : Int) (n m : Nat) : Bool := inB k 1 2 && inB s 1 8 && inB r 1 8 && decide (n = m) && decide ((n : Int) ≤ r)
theorem shB_le {k s r : Int} {n m : Nat} (h : shB k s r n m = true) : n ≤ m := by
  simp only [shB, Bool.and_eq_true, decide_eq_true_eq] at h
  omega
theorem below_gr {w w' : World} (h : w.grownBy w' none) : Below w.heap.size w w' := (Below.refl w.heap.size w).grown h (Nat.le_refl _) (by simp)
theorem info_byte : (Tryz.prog.info? 5).map (fun i => (i.zero, i.size, i.bytes)) = some (some (.int .u8 0), 1, 1) := by kernel_rfl
theorem made_bytes (n : Nat) : ∀ u ∈ (madeCells (Value.cells (.int .u8 0)) (n * 1)).toList, isB u := fun u hu => by
  simp only [madeCells, Array.toList_map, List.mem_map] at hu
  obtain ⟨k, _, rfl⟩ := hu
  have e : Value.cells (.int .u8 0) = #[.int .u8 0] := rfl
  rw [e]
  simp only [Array.size_singleton, Nat.mod_one]
  exact ⟨0, rfl⟩
theorem OwnP.apart {p q : Value → Prop} {W : World} {base : Nat} {e : TypeId} {size : Nat} {v : Value} {n base' : Nat} {e' : TypeId} {size' : Nat} {v' : Value} {n' : Nat} (h : OwnP p W base e size v n) (h' : OwnP q W base' e' size' v' n') (hne : e ≠ e') : v.ownBlock = none ∨ v.ownBlock ≠ v'.ownBlock := by
  obtain ⟨xs, ⟨_, h⟩, _⟩ := h
  obtain ⟨ys, ⟨_, h'⟩, _⟩ := h'
  rcases h with ⟨rfl, _⟩ | ⟨g, cap, cur, rfl, _, hg, _⟩
  · exact .inl rfl
  · rcases h' with ⟨rfl, _⟩ | ⟨g', cap', cur', rfl, _, hg', _⟩
    · exact .inr (by simp [Value.ownBlock])
    · refine .inr (fun e0 => hne ?_)
      simp only [Value.ownBlock, Option.some.injEq] at e0
      subst e0
      rw [hg] at hg'
      simp only [Option.some.injEq, Obj.cells.injEq] at hg'
      exact hg'.2.1
/-- append of what a row holds, onto another. -/
theorem app_two {P : Program} {ops : Array Oper} {rest : List Oper} {o : Oper} {a : Act} {Q : Exit → Act → World → Prop} {t e size bytes : Nat} (p : Value → Prop) (hp1 : ∀ u, p u → u.oneCell' = true) (hE : Elt P t e size bytes) (hgd : o.guard = none) (s x : Operand)
    (ho : o.op = .call { callee := .builtin .append, args := #[s, x], argTypes := #[t, t] }) (W : World) (base : Nat) (v : Value) (n : Nat) (hs : a.eval s = v) (base2 : Nat) (v2 : Value) (m : Nat)
    (hx : a.eval x = v2) (hown2 : OwnP p W base2 e size v2 m) (hown : OwnP p W base e size v n) (hn : (n + m) * bytes ≤ 140737488355328) (hn' : n + m ≤ 4611686018427387904) (hbase : base ≤ W.heap.size)
    (h : ∀ v' w', OwnP p w' base e size v' (n + m) → W.grownBy w' v.ownBlock → wpList P ops Q rest (a.put o.dst v') w') : wpList P ops Q (o :: rest) a W := by
  obtain ⟨ys, hb2, hq⟩ := hown2
  rcases hb2.2 with ⟨rfl, rfl⟩ | ⟨g, cap, cur, rfl, _⟩
  · obtain ⟨xs, hown, hi⟩ := hown
    obtain ⟨i, z, hi', hz, h2, h3, h4⟩ := hE.inf
    exact wpList_append_own_none hgd s x t ho base e i size hE.und hi' v n xs hs hown hx (h v W ⟨xs, by simpa using hown, hi⟩ (gr_refl W _))
  · exact app_src p hp1 hE hgd s x ho W base v n hs ⟨g, 0, none⟩ m cap hx (fun i hi => by
      obtain ⟨u, hu, hc⟩ := OwnP.at_ ⟨ys, hb2, hq⟩ i hi
      exact ⟨u, hu, by rw [add_plain]; exact hc⟩) hown hn hn' hbase h
theorem elt_int : Elt Tryz.prog 46 3 1 8 := elt_of (z := .int .i64 0) Tryz.underlying46 (by kernel_rfl) rfl (by decide)
theorem elt_str : Elt Tryz.prog 83 9 1 16 := elt_of (z := .string ⟨#[]⟩) Tryz.underlying83 (by kernel_rfl) rfl (by decide)
theorem Blk.five {W : World} {g : Nat} {t : TypeId} {p q r s u : Value} (h : Blk W g t #[p, q, r, s, u]) (a b c d e : Value) : Blk (((((W.setCell ⟨g, 0, none⟩ a).setCell ⟨g, 1, none⟩ b).setCell ⟨g, 2, none⟩ c).setCell ⟨g, 3, none⟩ d).setCell ⟨g, 4, none⟩ e) g t #[a, b, c, d, e] :=
  (((((h.set_ 0 a).set_ 1 b).set_ 2 c).set_ 3 d).set_ 4 e)
theorem Blk.new' {w : World} {g : Nat} (hg : g = w.heap.size) (t : TypeId) (cs : Array Value) : Blk (w.alloc (.cells cs t)) g t cs := hg ▸ Blk.new w t cs
theorem OwnP.empty' (p : Value → Prop) (W : World) (base g : Nat) (e : TypeId) (size : Nat) (hb : base ≤ W.heap.size) (hg : g = W.heap.size) : OwnP p (W.alloc (.cells #[] e)) base e size (.slice (some ⟨g, 0, none⟩) 0 0) 0 := hg ▸ OwnP.empty p W base e size hb
abbrev tabC (k s r : Int) (kv vv : Value) : Array Value := #[.int .i64 k, .int .i64 s, .int .i64 r, kv, vv]
theorem res_tab {F : Func} {i : Nat} (hr : F.results = #[.cell i 88]) {W' : World} {g : Nat} {k s r : Int} {A A' : Option Addr} {n c n' c' : Nat} (tmps : Array Value) (ht : tmps[i]? = some (.pointer (some ⟨g, 0, none⟩))) (h : Blk W' g 88 (tabC k s r (.slice A n c) (.slice A' n' c'))) : (results F tmps).run Tryz.prog W' = .ok (tabV k s r (.slice A n c) (.slice A' n' c')) W' := by
  obtain ⟨h0, h1, h2, h3, h4⟩ := h.cells5
  simp [results, hr, ht, go_sem, h0, h1, h2, h3, h4]
theorem res_tab2 {F : Func} {i j : Nat} (hr : F.results = #[.cell i 88, .tmp j]) {W' : World} {g : Nat} {k s r x : Int} {A A' : Option Addr} {n c n' c' : Nat} (tmps : Array Value) (ht : tmps[i]? = some (.pointer (some ⟨g, 0, none⟩))) (hj : tmps[j]? = some (.int .i64 x)) (h : Blk W' g 88 (tabC k s r (.slice A n c) (.slice A' n' c'))) : (results F tmps).run Tryz.prog W' = .ok (.tuple #[tabV k s r (.slice A n c) (.slice A' n' c'), .int .i64 x]) W' := by
  obtain ⟨h0, h1, h2, h3, h4⟩ := h.cells5
  simp [results, hr, ht, hj, go_sem, h0, h1, h2, h3, h4]
/-- A table comes back, its rows new. -/
def TabOut (w : World) (k s r : Int) (n n' : Nat) (v : Value) (w' : World) : Prop := ∃ (A A' : Option Addr) (c c' : Nat), v = tabV k s r (.slice A n c) (.slice A' n' c') ∧ OwnI w' w.heap.size 3 1 (.slice A n c) n ∧ OwnP (isS 1000) w' w.heap.size 9 1 (.slice A' n' c') n' ∧ Below w.heap.size w w'
theorem TabOut.mk' {w W : World} {k s r : Int} {n n' : Nat} {A A' : Option Addr} {c c' : Nat} (h1 : OwnI W w.heap.size 3 1 (.slice A n c) n) (h2 : OwnP (isS 1000) W w.heap.size 9 1 (.slice A' n' c') n') (h3 : Below w.heap.size w W) : TabOut w k s r n n' (tabV k s r (.slice A n c) (.slice A' n' c')) W := ⟨A, A', c, c', rfl, h1, h2, h3⟩
theorem OwnP.five {p : Value → Prop} {W : World} {base : Nat} {e : TypeId} {size : Nat} {v : Value} {n g : Nat} (h : OwnP p W base e size v n) (hne : v.ownBlock ≠ some g) (a b c d x : Value) : OwnP p (((((W.setCell ⟨g, 0, none⟩ a).setCell ⟨g, 1, none⟩ b).setCell ⟨g, 2, none⟩ c).setCell ⟨g, 3, none⟩ d).setCell ⟨g, 4, none⟩ x) base e size v n :=
  ((((h.set (q := ⟨g, 0, none⟩) a hne).set (q := ⟨g, 1, none⟩) b hne).set (q := ⟨g, 2, none⟩) c hne).set (q := ⟨g, 3, none⟩) d hne).set (q := ⟨g, 4, none⟩) x hne
theorem below_five {w W : World} {g : Nat} (h : Below w.heap.size w W) (hg : w.heap.size ≤ g) (a b c d e : Value) : Below w.heap.size w (((((W.setCell ⟨g, 0, none⟩ a).setCell ⟨g, 1, none⟩ b).setCell ⟨g, 2, none⟩ c).setCell ⟨g, 3, none⟩ d).setCell ⟨g, 4, none⟩ e) :=
  below_set (below_set (below_set (below_set (below_set h hg _) hg _) hg _) hg _) hg _
theorem Blk.sz {w : World} {g : Nat} {t t' : TypeId} {cs cs' : Array Value} (h : Blk w g t cs) (h' : Blk w g t' cs') : t = t' := by
  unfold Blk at h h'
  rw [h] at h'
  simp only [Option.some.injEq, Obj.cells.injEq] at h'
  exact h'.2.1
/-- A row is no block of another type. -/
theorem OwnP.notBlk {p : Value → Prop} {W : World} {base : Nat} {e : TypeId} {size : Nat} {v : Value} {n g : Nat} {t : TypeId} {cs : Array Value} (h : OwnP p W base e size v n) (hb : Blk W g t cs) (hne : e ≠ t) : v.ownBlock ≠ some g := by
  obtain ⟨xs, ⟨_, h⟩, _⟩ := h
  rcases h with ⟨rfl, _⟩ | ⟨g', cap, cur, rfl, _, hg, _⟩
  · simp [Value.ownBlock]
  · intro e0
    simp only [Value.ownBlock, Option.some.injEq] at e0
    subst e0
    unfold Blk at hb
    rw [hg] at hb
    simp only [Option.some.injEq, Obj.cells.injEq] at hb
    exact hne hb.2.1
theorem below_own {w W W' : World} {r : Nat} (h : Below w.heap.size w W) (hG : W.grownBy W' (some r)) (hr : w.heap.size ≤ r) : Below w.heap.size w W' := h.grown hG h.size (fun k hk => by cases hk; exact hr)
theorem Blk.own {W W' : World} {g r : Nat} {t : TypeId} {cs : Array Value} (h : Blk W g t cs) (hG : W.grownBy W' (some r)) (hr : g ≠ r) : Blk W' g t cs := h.grown hG (by simpa using hr)
theorem OwnP.own {p : Value → Prop} {W W' : World} {base : Nat} {e : TypeId} {size : Nat} {v : Value} {n r B : Nat} (h : OwnP p W base e size v n) (hG : W.grownBy W' (some r)) (hlt : ∀ k, v.ownBlock = some k → k < B) (hr : B ≤ r) : OwnP p W' base e size v n := h.far hG (.inr (fun e => by have := hlt r e; omega))
/-- A table comes back, whose rows lie from block B on. -/
def TabB (B : Nat) (w : World) (k s r : Int) (v : Value) (w' : World) : Prop := ∃ (A A' : Option Addr) (n c c' : Nat), v = tabV k s r (.slice A n c) (.slice A' n c') ∧ n ≤ 8 ∧ OwnI w' B 3 1 (.slice A n c) n ∧ OwnP (isS 1000) w' B 9 1 (.slice A' n c') n ∧ Below B w w'
theorem TabB.mk' {B : Nat} {w W : World} {k s r : Int} {n : Nat} {A A' : Option Addr} {c c' : Nat} (hn : n ≤ 8) (h1 : OwnI W B 3 1 (.slice A n c) n) (h2 : OwnP (isS 1000) W B 9 1 (.slice A' n c') n) (h3 : Below B w W) : TabB B w k s r (tabV k s r (.slice A n c) (.slice A' n c')) W := ⟨A, A', n, c, c', rfl, hn, h1, h2, h3⟩
theorem belowB_five {B : Nat} {w W : World} {g : Nat} (h : Below B w W) (hg : B ≤ g) (a b c d e : Value) : Below B w (((((W.setCell ⟨g, 0, none⟩ a).setCell ⟨g, 1, none⟩ b).setCell ⟨g, 2, none⟩ c).setCell ⟨g, 3, none⟩ d).setCell ⟨g, 4, none⟩ e) :=
  ((((h.setCell (p := ⟨g, 0, none⟩) hg a).setCell (p := ⟨g, 1, none⟩) hg b).setCell (p := ⟨g, 2, none⟩) hg c).setCell (p := ⟨g, 3, none⟩) hg d).setCell (p := ⟨g, 4, none⟩) hg e
theorem OwnP.below {p : Value → Prop} {B : Nat} {w W W' : World} {e : TypeId} {size : Nat} {v : Value} {n : Nat} (hB : Below B w W) (hb : B ≤ W.heap.size) (hO : OwnP p W B e size v n) (hG : W.grownBy W' v.ownBlock) : Below B w W' :=
  hB.grown hG hb fun k hk => (hO.lt k hk).1
theorem OwnP.slice_ne {p : Value → Prop} {W : World} {base : Nat} {e : TypeId} {size b n c g : Nat} {t : TypeId} {cs : Array Value} (h : OwnP p W base e size (.slice (some ⟨b, 0, none⟩) n c) n) (hb : Blk W g t cs) (hne : e ≠ t) : g ≠ b := fun e0 => h.notBlk hb hne (by simp [Value.ownBlock, e0])
theorem OwnP.setOf {p q : Value → Prop} {W : World} {base : Nat} {e : TypeId} {size : Nat} {v : Value} {n base' : Nat} {e' : TypeId} {size' b n' c : Nat} (h : OwnP p W base e size v n) (h' : OwnP q W base' e' size' (.slice (some ⟨b, 0, none⟩) n' c) n') (hne : e ≠ e') (i : Nat) (u : Value) : OwnP p (W.setCell ⟨b, i, none⟩ u) base e size v n :=
  h.set (q := ⟨b, i, none⟩) u (by
    rcases h.apart h' hne with e0 | e0
    · rw [e0]; simp
    · exact e0)
theorem src_one {p : Value → Prop} (W : World) (t : TypeId) (u : Value) (hu : p u) : ∀ i, i < 1 * 1 → ∃ v, p v ∧ (W.alloc (.cells #[u] t)).cell? ((⟨W.heap.size, 0, none⟩ : Addr).add i) = some v := fun i hi => by
  obtain rfl : i = 0 := by omega
  rw [add_plain, (Blk.new W t _).cell 0]
  exact ⟨u, hu, rfl⟩
/-- Any table comes back whose numbers are small. -/
def TabAny (B : Nat) (w : World) (v : Value) (w' : World) : Prop := ∃ (k r : Int) (s : Nat), s ≤ 8 ∧ r ≤ 8 ∧ TabB B w k s r v w'
theorem inB_le {n lo hi : Int} (h : inB n lo hi = true) : lo ≤ n ∧ n ≤ hi := by
  simpa [inB] using h
theorem Blk.belowB {w w' : World} {B g : Nat} {t : TypeId} {cs : Array Value} (h : Blk w g t cs) (hb : Below B w w') (hg : g < B) : Blk w' g t cs := (hb.block g hg).trans h
/-- A table whose rows lie from block B on. -/
def TabRow (B : Nat) (v : Value) (W : World) : Prop := ∃ (k r : Int) (s : Nat) (A A' : Option Addr) (n c c' : Nat), v = tabV k s r (.slice A n c) (.slice A' n c') ∧ s ≤ 8 ∧ r ≤ 8 ∧ n ≤ 8 ∧ OwnI W B 3 1 (.slice A n c) n ∧ OwnP (isS 1000) W B 9 1 (.slice A' n c') n
theorem TabAny.row {B : Nat} {w W : World} {v : Value} (h : TabAny B w v W) : TabRow B v W ∧ Below B w W := by
  obtain ⟨k, r, s, hs, hr, A, A', n, c, c', rfl, hn, h1, h2, hb⟩ := h
  exact ⟨⟨k, r, s, A, A', n, c, c', rfl, hs, hr, hn, h1, h2⟩, hb⟩
theorem Rd.five {B g M : Nat} {W : World} (h : Rd B g M W) {k : Nat} (hg : g < k) (a b c d e : Value) : Rd B g M (((((W.setCell ⟨k, 0, none⟩ a).setCell ⟨k, 1, none⟩ b).setCell ⟨k, 2, none⟩ c).setCell ⟨k, 3, none⟩ d).setCell ⟨k, 4, none⟩ e) :=
  ((((h.set a hg).set b hg).set c hg).set d hg).set e hg
theorem Fr.five {w W : World} {g : Nat} (h : Fr w g W) {k : Nat} (hg : w.heap.size ≤ k) (a b c d e : Value) : Fr w g (((((W.setCell ⟨k, 0, none⟩ a).setCell ⟨k, 1, none⟩ b).setCell ⟨k, 2, none⟩ c).setCell ⟨k, 3, none⟩ d).setCell ⟨k, 4, none⟩ e) :=
  ((((h.set ⟨k, 0, none⟩ a hg).set ⟨k, 1, none⟩ b hg).set ⟨k, 2, none⟩ c hg).set ⟨k, 3, none⟩ d hg).set ⟨k, 4, none⟩ e hg
theorem Blk.farFive {W : World} {g k : Nat} {t : TypeId} {cs : Array Value} (h : Blk W g t cs) (hne : g ≠ k) (a b c d e : Value) : Blk (((((W.setCell ⟨k, 0, none⟩ a).setCell ⟨k, 1, none⟩ b).setCell ⟨k, 2, none⟩ c).setCell ⟨k, 3, none⟩ d).setCell ⟨k, 4, none⟩ e) g t cs :=
  ((((h.far (p := ⟨k, 0, none⟩) hne a).far (p := ⟨k, 1, none⟩) hne b).far (p := ⟨k, 2, none⟩) hne c).far (p := ⟨k, 3, none⟩) hne d).far (p := ⟨k, 4, none⟩) hne e
theorem size_drew (w : World) : w.drew.heap.size = w.heap.size := rfl
theorem OwnP.drew {p : Value → Prop} {W : World} {base : Nat} {e : TypeId} {size : Nat} {v : Value} {n : Nat} (h : OwnP p W base e size v n) : OwnP p W.drew base e size v n := h
theorem Blk.ff {W : World} {g k : Nat} {t t' : TypeId} {cs cs' : Array Value} (h5 : Blk W k t' cs') (h : Blk W g t cs) (hne : g ≠ k) (a b c d e : Value) : Blk (((((W.setCell ⟨k, 0, none⟩ a).setCell ⟨k, 1, none⟩ b).setCell ⟨k, 2, none⟩ c).setCell ⟨k, 3, none⟩ d).setCell ⟨k, 4, none⟩ e) g t cs := h.farFive hne a b c d e
theorem Rd.ff {B g M k : Nat} {W : World} {t' : TypeId} {cs' : Array Value} (h5 : Blk W k t' cs') (h : Rd B g M W) (hg : g < k) (a b c d e : Value) : Rd B g M (((((W.setCell ⟨k, 0, none⟩ a).setCell ⟨k, 1, none⟩ b).setCell ⟨k, 2, none⟩ c).setCell ⟨k, 3, none⟩ d).setCell ⟨k, 4, none⟩ e) := h.five hg a b c d e
theorem Fr.ff {w W : World} {g k : Nat} {t' : TypeId} {cs' : Array Value} (h5 : Blk W k t' cs') (h : Fr w g W) (hg : w.heap.size ≤ k) (a b c d e : Value) : Fr w g (((((W.setCell ⟨k, 0, none⟩ a).setCell ⟨k, 1, none⟩ b).setCell ⟨k, 2, none⟩ c).setCell ⟨k, 3, none⟩ d).setCell ⟨k, 4, none⟩ e) := h.five hg a b c d e
/-- A table is drawn. -/
def TabDrawn (B g M : Nat) (w : World) (e : Ending) (w' : World) : Prop := ∃ v, e = .returned v ∧ TabRow w.heap.size v w' ∧ Rd B g (M + 40) w' ∧ Fr w g w'
abbrev stC (p : Value) (s : ByteArray) (t r k : Value) : Array Value := #[p, .string s, t, r, k]
theorem res_start {F : Func} {i : Nat} (hr : F.results = #[.cell i 48]) {W' : World} {g : Nat} {s : ByteArray} {A1 A2 A3 A4 : Option Addr} {n1 n2 n3 n4 c1 c2 c3 c4 : Nat} (tmps : Array Value) (ht : tmps[i]? = some (.pointer (some ⟨g, 0, none⟩))) (h : Blk W' g 48 (stC (.slice A1 n1 c1) s (.slice A2 n2 c2) (.slice A3 n3 c3) (.slice A4 n4 c4))) : (results F tmps).run Tryz.prog W' = .ok (.agg (stC (.slice A1 n1 c1) s (.slice A2 n2 c2) (.slice A3 n3 c3) (.slice A4 n4 c4))) W' := by
  obtain ⟨h0, h1, h2, h3, h4⟩ := h.cells5
  simp [results, hr, ht, go_sem, h0, h1, h2, h3, h4]
/-- A start is drawn: of it what came is known to be of the right length. -/
def StartDrawn (B g M : Nat) (w : World) (e : Ending) (w' : World) : Prop := ∃ (A1 A2 A3 A4 : Option Addr) (n1 n2 n3 n4 c1 c2 c3 c4 : Nat) (s : ByteArray), e = .returned (.agg #[.slice A1 n1 c1, .string s, .slice A2 n2 c2, .slice A3 n3 c3, .slice A4 n4 c4]) ∧ s.size = 12 ∧ Rd B g (M + 400) w' ∧ Fr w g w'
theorem below_rd {w W W' : World} {g : Nat} (h : Below w.heap.size w W) (hg : w.heap.size ≤ g) (hF : W.grownBy W' (some g)) : Below w.heap.size w W' := below_own h hF hg
theorem field_start (A1 A2 A3 A4 : Option Addr) (n1 n2 n3 n4 c1 c2 c3 c4 : Nat) (s : ByteArray) (w : World) : (Instr.field 48 (.agg #[.slice A1 n1 c1, .string s, .slice A2 n2 c2, .slice A3 n3 c3, .slice A4 n4 c4]) 1).run Tryz.prog w = .ok (.string s) w := by
  have hu := Tryz.underlying48
  simp [Instr.field, run_underlying hu, asAgg, go_sem]
/-- A number in 32 bits. -/
structure I32 (x : Int) : Prop where
  lo : 0 ≤ x
  hi : x ≤ 4294967295
theorem and_32 {a b : Int} (ha : I32 a) (hb : I32 b) : I32 (bits .and .i64 a b) := by
  obtain ⟨x, rfl⟩ := Int.eq_ofNat_of_zero_le ha.lo
  obtain ⟨y, rfl⟩ := Int.eq_ofNat_of_zero_le hb.lo
  have h1 := ha.hi
  have h2 := hb.hi
  have : x &&& y < 2 ^ 32 := Nat.and_lt_two_pow _ (by omega)
  show I32 (bits .and .i64 (x : Int) (y : Int))
  rw [and_nat x y (by omega) (by omega)]
  exact ⟨by omega, by omega⟩
theorem or_32 {a b : Int} (ha : I32 a) (hb : I32 b) : I32 (bits .or .i64 a b) := by
  obtain ⟨x, rfl⟩ := Int.eq_ofNat_of_zero_le ha.lo
  obtain ⟨y, rfl⟩ := Int.eq_ofNat_of_zero_le hb.lo
  have h1 := ha.hi
  have h2 := hb.hi
  have : x ||| y < 2 ^ 32 := Nat.or_lt_two_pow (by omega) (by omega)
  show I32 (bits .or .i64 (x : Int) (y : Int))
  rw [or_nat x y (by omega) (by omega)]
  exact ⟨by omega, by omega⟩
theorem xor_32 {a b : Int} (ha : I32 a) (hb : I32 b) : I32 (bits .xor .i64 a b) := by
  obtain ⟨x, rfl⟩ := Int.eq_ofNat_of_zero_le ha.lo
  obtain ⟨y, rfl⟩ := Int.eq_ofNat_of_zero_le hb.lo
  have h1 := ha.hi
  have h2 := hb.hi
  have : x ^^^ y < 2 ^ 32 := Nat.xor_lt_two_pow (by omega) (by omega)
  show I32 (bits .xor .i64 (x : Int) (y : Int))
  rw [xor_nat x y (by omega) (by omega)]
  exact ⟨by omega, by omega⟩
theorem top_32 : I32 4294967295 := ⟨by omega, by omega⟩
theorem msk_32 {n : Int} (h : I32 n) : I32 (msk n) := by
  unfold msk
  have h1 := h.hi
  have h0 := h.lo
  split
  · exact ⟨by omega, by omega⟩
  · have hl : n.toNat.log2 < 32 := by rw [Nat.log2_lt (by omega)]; omega
    have hp : 0 < 2 ^ (n.toNat.log2 + 1) := Nat.two_pow_pos _
    have h2 := Nat.pow_le_pow_right (n := 2) (by omega) (show n.toNat.log2 + 1 ≤ 32 by omega)
    exact ⟨by omega, by omega⟩
/-- A range, as a value. -/
abbrev rgV (a b c d : Int) : Value := .agg #[.int .i64 a, .int .i64 b, .int .i64 c, .int .i64 d]
abbrev rgC (a b c d : Int) : Array Value := #[.int .i64 a, .int .i64 b, .int .i64 c, .int .i64 d]
/-- A range in 32 bits. -/
def R32 (v : Value) : Prop := ∃ a b c d : Int, v = rgV a b c d ∧ I32 a ∧ I32 b ∧ I32 c ∧ I32 d
theorem Blk.cells4 {w : World} {g : Nat} {t : TypeId} {a b c d : Value} (h : Blk w g t #[a, b, c, d]) : w.cell? ⟨g, 0, none⟩ = some a ∧ w.cell? ⟨g, 1, none⟩ = some b ∧ w.cell? ⟨g, 2, none⟩ = some c ∧ w.cell? ⟨g, 3, none⟩ = some d :=
  ⟨h.cell 0, h.cell 1, h.cell 2, h.cell 3⟩
theorem Blk.four {W : World} {g : Nat} {t : TypeId} {p q r s : Value} (h : Blk W g t #[p, q, r, s]) (a b c d : Value) : Blk ((((W.setCell ⟨g, 0, none⟩ a).setCell ⟨g, 1, none⟩ b).setCell ⟨g, 2, none⟩ c).setCell ⟨g, 3, none⟩ d) g t #[a, b, c, d] :=
  ((((h.set_ 0 a).set_ 1 b).set_ 2 c).set_ 3 d)
theorem Blk.farFour {W : World} {g k : Nat} {t : TypeId} {cs : Array Value} (h : Blk W g t cs) (hne : g ≠ k) (a b c d : Value) : Blk ((((W.setCell ⟨k, 0, none⟩ a).setCell ⟨k, 1, none⟩ b).setCell ⟨k, 2, none⟩ c).setCell ⟨k, 3, none⟩ d) g t cs :=
  (((h.far (p := ⟨k, 0, none⟩) hne a).far (p := ⟨k, 1, none⟩) hne b).far (p := ⟨k, 2, none⟩) hne c).far (p := ⟨k, 3, none⟩) hne d
theorem below_four {w W : World} {g : Nat} (h : Below w.heap.size w W) (hg : w.heap.size ≤ g) (a b c d : Value) : Below w.heap.size w ((((W.setCell ⟨g, 0, none⟩ a).setCell ⟨g, 1, none⟩ b).setCell ⟨g, 2, none⟩ c).setCell ⟨g, 3, none⟩ d) :=
  below_set (below_set (below_set (below_set h hg _) hg _) hg _) hg _
theorem res_rg {F : Func} {i : Nat} (hr : F.results = #[.cell i 54]) {W' : World} {g : Nat} {a b c d : Int} (tmps : Array Value) (ht : tmps[i]? = some (.pointer (some ⟨g, 0, none⟩))) (h : Blk W' g 54 (rgC a b c d)) : (results F tmps).run Tryz.prog W' = .ok (rgV a b c d) W' := by
  obtain ⟨h0, h1, h2, h3⟩ := h.cells4
  simp [results, hr, ht, go_sem, h0, h1, h2, h3]
theorem pow_32 {k : Nat} (hk : k ≤ 32) : ∃ Q : Int, (2 : Int) ^ k = Q ∧ 1 ≤ Q ∧ Q ≤ 4294967296 := by
  have h2 : (2 : Nat) ^ k ≤ 2 ^ 32 := Nat.pow_le_pow_right (by decide) hk
  have h3 : 0 < 2 ^ k := Nat.two_pow_pos k
  have h4 : ((2 : Int) ^ k) = ((2 ^ k : Nat) : Int) := by simp
  exact ⟨((2 ^ k : Nat) : Int), h4, by omega, by omega⟩
/-- The bits from one on, as a number. -/
def ovr (k : Nat) : Int := if k = 0 then 4294967295 else bits .xor .i64 4294967295 (msk ((2 : Int) ^ (k - 1) - 1))
theorem Blk.drewN {w : World} {g : Nat} {t : TypeId} {cs : Array Value} (h : Blk w g t cs) (n : Nat) : Blk (w.drewN n) g t cs := h
theorem one_32 : I32 1 := ⟨by omega, by omega⟩
theorem zero_32 : I32 0 := ⟨by omega, by omega⟩
theorem r32_1 : R32 (rgV 1 0 0 0) := ⟨1, 0, 0, 0, rfl, one_32, zero_32, zero_32, zero_32⟩
theorem r32_mk {a b c d : Int} (ha : I32 a) (hb : I32 b) (hc : I32 c) (hd : I32 d) : R32 (rgV a b c d) := ⟨a, b, c, d, rfl, ha, hb, hc, hd⟩
theorem res_rgb {F : Func} {i j : Nat} (hr : F.results = #[.cell i 54, .tmp j]) {W' : World} {g : Nat} {a b c d : Int} {x : Bool} (tmps : Array Value) (ht : tmps[i]? = some (.pointer (some ⟨g, 0, none⟩))) (hj : tmps[j]? = some (.bool x)) (h : Blk W' g 54 (rgC a b c d)) : (results F tmps).run Tryz.prog W' = .ok (.tuple #[rgV a b c d, .bool x]) W' := by
  obtain ⟨h0, h1, h2, h3⟩ := h.cells4
  simp [results, hr, ht, hj, go_sem, h0, h1, h2, h3]
/-- A range in 32 bits comes back, and a word on it. -/
def RgB (w : World) (e : Ending) (w' : World) : Prop := ∃ (v : Value) (x : Bool), e = .returned (.tuple #[v, .bool x]) ∧ R32 v ∧ Below w.heap.size w w'
theorem res_rgb2 {F : Func} {i j k : Nat} (hr : F.results = #[.cell i 54, .cell j 54, .tmp k]) {W' : World} {g h : Nat} {a b c d p q r s : Int} {x : Bool} (tmps : Array Value) (ht : tmps[i]? = some (.pointer (some ⟨g, 0, none⟩))) (hj : tmps[j]? = some (.pointer (some ⟨h, 0, none⟩))) (hk : tmps[k]? = some (.bool x)) (h1 : Blk W' g 54 (rgC a b c d)) (h2 : Blk W' h 54 (rgC p q r s)) : (results F tmps).run Tryz.prog W' = .ok (.tuple #[rgV a b c d, rgV p q r s, .bool x]) W' := by
  obtain ⟨x0, x1, x2, x3⟩ := h1.cells4
  obtain ⟨y0, y1, y2, y3⟩ := h2.cells4
  simp [results, hr, ht, hj, hk, go_sem, x0, x1, x2, x3, y0, y1, y2, y3]
/-- Two ranges in 32 bits come back, and a word on them. -/
def RgBB (w : World) (e : Ending) (w' : World) : Prop := ∃ (v u : Value) (x : Bool), e = .returned (.tuple #[v, u, .bool x]) ∧ R32 v ∧ R32 u ∧ Below w.heap.size w w'
theorem end_rgb2 {F : Func} {i j k : Nat} {w W' : World} {g h : Nat} {a b c d p q r s : Int} {x : Act} (h1 : Blk W' g 54 (rgC a b c d)) (h2 : Blk W' h 54 (rgC p q r s)) (hB : Below w.heap.size w W') (hR : R32 (rgV a b c d)) (hR' : R32 (rgV p q r s)) (hd : x.defers = []) (hr : F.results = #[.cell i 54, .cell j 54, .tmp k]) (ht : x.tmps[i]? = some (.pointer (some ⟨g, 0, none⟩))) (hj : x.tmps[j]? = some (.pointer (some ⟨h, 0, none⟩))) (hk : ∃ y : Bool, x.tmps[k]? = some (.bool y)) : bodyPost Tryz.prog F (RgBB w) .ret x W' :=
  let ⟨_, hk⟩ := hk; bodyPost_ret (res_rgb2 hr x.tmps ht hj hk h1 h2) hd ⟨_, _, _, rfl, hR, hR', hB⟩
theorem ne_23 (w : World) : w.heap.size + 1 + 1 ≠ w.heap.size + 1 + 1 + 1 := by omega
theorem ne_32 (w : World) : w.heap.size + 1 + 1 + 1 ≠ w.heap.size + 1 + 1 := by omega
theorem le_2 (w : World) : w.heap.size ≤ w.heap.size + 1 + 1 := by omega
theorem le_3 (w : World) : w.heap.size ≤ w.heap.size + 1 + 1 + 1 := by omega
theorem newY (w : World) (c1 c2 c3 : Array Value) (t : TypeId) : Blk ((((w.alloc (.cells c1 t)).alloc (.cells c2 t)).alloc (.cells c3 t))) (w.heap.size + 1 + 1) t c3 := Blk.new' (by simp) _ _
theorem newZ (w : World) (c1 c2 c3 c4 : Array Value) (t : TypeId) : Blk ((((w.alloc (.cells c1 t)).alloc (.cells c2 t)).alloc (.cells c3 t)).alloc (.cells c4 t)) (w.heap.size + 1 + 1 + 1) t c4 := Blk.new' (by simp) _ _
theorem le_m (w : World) : w.heap.size ≤ w.heap.size + 1 + 1 := by omega
theorem end_rgb {F : Func} {i j : Nat} {w W' : World} {g : Nat} {a b c d : Int} {tmps : Array Value} (h : Blk W' g 54 (rgC a b c d)) (hB : Below w.heap.size w W') (hR : R32 (rgV a b c d)) (hr : F.results = #[.cell i 54, .tmp j]) (ht : tmps[i]? = some (.pointer (some ⟨g, 0, none⟩))) (hj : ∃ x : Bool, tmps[j]? = some (.bool x)) : bodyPost Tryz.prog F (RgB w) .ret { tmps := tmps, defers := [] } W' :=
  let ⟨_, hj⟩ := hj; bodyPost_ret (res_rgb hr tmps ht hj h) rfl ⟨_, _, rfl, hR, hB⟩
end Go.Proofs.YtlofelnfcdbedaaGreat.S
