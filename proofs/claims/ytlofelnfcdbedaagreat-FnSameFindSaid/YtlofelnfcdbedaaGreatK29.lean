/- Numbers sorted, and without doubles. Cuts of a byte: what the program finds. Pieces: how many the program counts; whether it looks. -/
import Derived.Test.YtlofelnfcdbedaaGreatK28
import Derived.Test.YtlofelnfcdbedaaGreatK27
import Derived.Sort.OwnSortedInts
import Derived.Test.YtlofelnfcdbedaaGreatK26
import Derived.Test.YtlofelnfcdbedaaGreatK23
import Derived.Test.YtlofelnfcdbedaaGreatK24
namespace Go.Proofs.YtlofelnfcdbedaaGreat.S
open Go.RowKit Go.BigFrame Go.Sort
set_option linter.unusedVariables false
set_option linter.unusedSimpArgs false

/-! ### Plain lists -/
def leI (x y : Int) : Bool := decide (x ≤ y)
def srt (zs : List Int) : List Int := zs.mergeSort fun x y => decide (x ≤ y)
theorem srt_sorted (zs : List Int) : (srt zs).Pairwise (· ≤ ·) := by
  have := List.pairwise_mergeSort (le := fun (x y : Int) => decide (x ≤ y)) (fun a b c h1 h2 => by simp at *; omega) (fun a b => by simp; omega) zs
  exact this.imp (by simp)
theorem srt_perm (zs : List Int) : (srt zs).Perm zs := List.mergeSort_perm zs _
theorem sorted_get {zs : List Int} (h : zs.Pairwise (· ≤ ·)) {i j : Nat} (hij : i ≤ j) (hj : j < zs.length) : zs.toArray[i]! ≤ zs.toArray[j]! := by
  rcases Nat.lt_or_eq_of_le hij with h1 | rfl
  · rw [getElem!_pos zs.toArray i (by simp; omega), getElem!_pos zs.toArray j (by simpa using hj)]
    exact List.pairwise_iff_getElem.1 h i j (by omega) hj h1
  · exact Int.le_refl _
theorem compact_mem {zs : List Int} (x : Int) : x ∈ Lib.compact zs ↔ x ∈ zs := by
  constructor
  · intro h
    simp only [Lib.compact, Lib.compactUpTo, List.mem_map, List.mem_filter, List.mem_range] at h
    obtain ⟨j, ⟨hj, _⟩, rfl⟩ := h
    rw [getElem!_pos zs.toArray j (by simpa using hj)]
    simp
  · intro h
    obtain ⟨j, hj, rfl⟩ := List.getElem_of_mem h
    have key : ∀ j, j < zs.length → zs.toArray[j]! ∈ Lib.compact zs := fun j => by
      induction j with
      | zero =>
        intro hj
        simp only [Lib.compact, Lib.compactUpTo, List.mem_map, List.mem_filter, List.mem_range]
        exact ⟨0, ⟨hj, by simp [Lib.keeps]⟩, rfl⟩
      | succ j ih =>
        intro hj
        by_cases e : zs.toArray[j + 1]! = zs.toArray[j]!
        · rw [e]
          exact ih (by omega)
        · simp only [Lib.compact, Lib.compactUpTo, List.mem_map, List.mem_filter, List.mem_range]
          exact ⟨j + 1, ⟨hj, by simp [Lib.keeps]; exact fun h => e (by simpa using h)⟩, rfl⟩
    have := key j hj
    rw [getElem!_pos zs.toArray j (by simpa using hj)] at this
    simpa using this
theorem compact_sorted {zs : List Int} (h : zs.Pairwise (· ≤ ·)) : (Lib.compact zs).Pairwise (· < ·) := by
  unfold Lib.compact Lib.compactUpTo
  rw [List.pairwise_map, List.pairwise_filter]
  refine List.Pairwise.imp_of_mem ?_ (List.pairwise_lt_range (n := zs.length))
  intro i j hi hj hij _ hk
  have hj := List.mem_range.1 hj
  simp only [Lib.keeps, decide_eq_true_eq] at hk
  have h1 : zs.toArray[j]! ≠ zs.toArray[j - 1]! := by
    rcases hk with hk | hk
    · omega
    · exact hk
  have h2 := sorted_get h (i := j - 1) (j := j) (by omega) hj
  have h3 := sorted_get h (i := i) (j := j - 1) (by omega) (by omega)
  omega
theorem eq_of_sorted : ∀ {xs ys : List Int}, xs.Pairwise (· < ·) → ys.Pairwise (· < ·) → (∀ x, x ∈ xs ↔ x ∈ ys) → xs = ys
  | [], [], _, _, _ => rfl
  | [], y :: ys, _, _, h => absurd ((h y).2 (by simp)) (by simp)
  | x :: xs, [], _, _, h => absurd ((h x).1 (by simp)) (by simp)
  | x :: xs, y :: ys, hx, hy, h => by
    rw [List.pairwise_cons] at hx hy
    have e : x = y := by
      rcases List.mem_cons.1 ((h x).1 (by simp)) with h1 | h1
      · exact h1
      · rcases List.mem_cons.1 ((h y).2 (by simp)) with h2 | h2
        · exact h2.symm
        · have := hy.1 x h1
          have := hx.1 y h2
          omega
    subst e
    rw [eq_of_sorted hx.2 hy.2 (fun z => ?_)]
    constructor
    · intro hz
      rcases List.mem_cons.1 ((h z).1 (by simp [hz])) with h1 | h1
      · have := hx.1 z hz; omega
      · exact h1
    · intro hz
      rcases List.mem_cons.1 ((h z).2 (by simp [hz])) with h1 | h1
      · have := hy.1 z hz; omega
      · exact h1
/-- Numbers sorted and without doubles are the cuts, if they are just these. -/
theorem cuts_of {zs : List Int} {S : List Ru} {p : Nat} (h : ∀ x : Int, x ∈ zs ↔ ∃ n : Nat, x = n ∧ n < 256 ∧ isCut S p n = true) : Lib.compact (srt zs) = (cutsOf S p).map fun n => ((n : Nat) : Int) := by
  refine eq_of_sorted (compact_sorted (srt_sorted zs)) ?_ (fun x => ?_)
  · rw [List.pairwise_map]
    exact (cuts_sorted S p).imp (by omega)
  · rw [compact_mem, (srt_perm zs).mem_iff, h x]
    simp only [List.mem_map, mem_cuts]
    constructor
    · rintro ⟨n, rfl, h1, h2⟩
      exact ⟨n, ⟨h1, h2⟩, rfl⟩
    · rintro ⟨n, ⟨h1, h2⟩, rfl⟩
      exact ⟨n, rfl, h1, h2⟩

/-! ### Rows of numbers -/
abbrev RowI (W : World) (base : Nat) (v : Value) (zs : List Int) : Prop := W.ownsRow base 3 1 v zs.length (zs.map (Value.int .i64))
theorem RowI.row {W : World} {base : Nat} {v : Value} {l : List Nat} (h : RowI W base v (l.map fun n => ((n : Nat) : Int))) : Row W base v l := by
  have e : (l.map fun n => ((n : Nat) : Int)).map (Value.int .i64) = natV l := by simp [natV]
  rw [RowI, e, List.length_map] at h
  exact h
theorem Row.rowI {W : World} {base : Nat} {v : Value} {l : List Nat} (h : Row W base v l) : RowI W base v (l.map fun n => ((n : Nat) : Int)) := by
  have e : (l.map fun n => ((n : Nat) : Int)).map (Value.int .i64) = natV l := by simp [natV]
  rw [RowI, e, List.length_map]
  exact h
theorem c_Sort (base g cap : Nat) (zs : List Int) (W : World) (h : RowI W base (.slice (some ⟨g, 0, none⟩) zs.length cap) zs) (hl : zs.length ≤ 100000) : Calls Tryz.prog 59 #[.slice (some ⟨g, 0, none⟩) zs.length cap] W fun e w' => e = .returned (.tuple #[]) ∧ RowI w' base (.slice (some ⟨g, 0, none⟩) zs.length cap) (srt zs) ∧ W.grownBy w' (some g) := by
  obtain ⟨h0, ⟨h1, _⟩ | ⟨g', cap', cur, h1, hb, hg, hn, hm, hs, ht⟩⟩ := h
  · simp at h1
  · simp only [Value.slice.injEq, Option.some.injEq, Addr.mk.injEq, and_true, true_and] at h1
    obtain ⟨rfl, rfl⟩ := h1
    rw [Nat.mul_one] at ht
    have hlt : g < W.heap.size := (Array.getElem?_eq_some_iff.1 hg).1
    refine (Tryz.slices_Sort_int g 0 cap zs W (holds_of_blockI hg ht) hlt (by omega)).mono ?_
    rintro e w' ⟨rfl, n, os, rfl⟩
    have hle : (srt zs).length = zs.length := (srt_perm zs).length_eq
    refine ⟨rfl, ?_, grownBy_sortedI _⟩
    have := ownsRow_sortedI (ss := zs) (ts := srt zs) (n := n) (os := os) hle hb hg hn hm hs
    rw [RowI, hle]
    exact this
theorem c_Compact (base g cap : Nat) (zs : List Int) (W : World) (h : RowI W base (.slice (some ⟨g, 0, none⟩) zs.length cap) zs) (hl : zs.length ≤ 100000) : Calls Tryz.prog 60 #[.slice (some ⟨g, 0, none⟩) zs.length cap] W fun e w' => e = .returned (.slice (some ⟨g, 0, none⟩) (Lib.compact zs).length cap) ∧ RowI w' base (.slice (some ⟨g, 0, none⟩) (Lib.compact zs).length cap) (Lib.compact zs) ∧ W.grownBy w' (some g) := by
  obtain ⟨h0, ⟨h1, _⟩ | ⟨g', cap', cur, h1, hb, hg, hn, hm, hs, ht⟩⟩ := h
  · simp at h1
  · simp only [Value.slice.injEq, Option.some.injEq, Addr.mk.injEq, and_true, true_and] at h1
    obtain ⟨rfl, rfl⟩ := h1
    rw [Nat.mul_one] at ht
    refine (Tryz.slices_Compact_int g 0 cap zs W (holds_of_blockI hg ht) (by omega) hn).mono ?_
    rintro e w' ⟨rfl, q, rfl⟩
    have hcl : (Lib.compact zs).length ≤ zs.length := by
      unfold Lib.compact Lib.compactUpTo
      rw [List.length_map]
      exact Nat.le_trans (List.length_filter_le _ _) (by simp)
    obtain ⟨us, hus⟩ : ∃ us, Lib.compact zs ++ List.replicate (zs.length - (Lib.compact zs).length) (0 : Int) = us := ⟨_, rfl⟩
    have hul : us.length = zs.length := by rw [← hus]; simp; omega
    rw [hus]
    refine ⟨rfl, ?_, ?_⟩
    · refine ⟨by simp, .inr ⟨g, cap, putCells (Value.int .i64) 0 us.toArray cur, rfl, hb, ?_, by omega, hm, by simp [putCells, hs], ?_⟩⟩
      · have := heap_sortedI (n := q) (os := #[]) us.toArray hg
        rwa [grow_empty] at this
      · rw [Nat.mul_one]
        have h2 := take_putCellsI cur us (by omega)
        have h3 := congrArg (List.take (Lib.compact zs).length) h2
        rw [List.take_take, Nat.min_eq_left (by omega), ← List.map_take, ← hus, List.take_left'] at h3
        · rw [← hus]; exact h3
        · rfl
    · have := grownBy_sortedI (w := W) (g := g) (n := q) (os := #[]) us.toArray
      rwa [grow_empty] at this
end Go.Proofs.YtlofelnfcdbedaaGreat.S
namespace Go.Proofs.YtlofelnfcdbedaaGreat.S
open Go.RowKit Go.BigFrame Go.Sort
set_option linter.unusedVariables false
set_option linter.unusedSimpArgs false

/-- Just the cuts that some rules make. -/
def CutsI (S : List Ru) (p : Nat) (zs : List Int) : Prop := ∀ x : Int, x ∈ zs ↔ ∃ n : Nat, x = n ∧ n < 256 ∧ isCut S p n = true
theorem cutsI_start (p : Nat) : CutsI [] p [0] := fun x => by
  simp only [List.mem_singleton, isCut, List.any_nil, Bool.or_false, beq_iff_eq]
  constructor
  · rintro rfl; exact ⟨0, rfl, by omega, rfl⟩
  · rintro ⟨n, rfl, _, rfl⟩; rfl
theorem cutsI_skip {S : List Ru} {p : Nat} {zs : List Int} (h : CutsI S p zs) (r : Ru) (hr : r.pos ≠ (p : Int)) : CutsI (S ++ [r]) p zs := fun x => by
  rw [h x]
  have e : (r.pos == (p : Int)) = false := by simp [hr]
  simp only [isCut_snoc, e, Bool.false_and, Bool.or_false]
theorem cutsI_one {S : List Ru} {p : Nat} {zs : List Int} (h : CutsI S p zs) (r : Ru) (m : Nat) (hr : r.pos = (p : Int)) (hm : r.num = (m : Int)) (h255 : m = 255) : CutsI (S ++ [r]) p (zs ++ [(m : Int)]) := fun x => by
  rw [List.mem_append, h x, List.mem_singleton]
  simp only [isCut_snoc, hr, hm, beq_self_eq_true, Bool.true_and, Bool.or_eq_true, beq_iff_eq]
  constructor
  · rintro (⟨n, rfl, h1, h2⟩ | rfl)
    · exact ⟨n, rfl, h1, .inl h2⟩
    · exact ⟨m, rfl, by omega, .inr (.inl rfl)⟩
  · rintro ⟨n, rfl, h1, h2 | h2 | h2⟩
    · exact .inl ⟨n, rfl, h1, h2⟩
    · exact .inr h2.symm
    · omega
theorem cutsI_two {S : List Ru} {p : Nat} {zs : List Int} (h : CutsI S p zs) (r : Ru) (m : Nat) (hr : r.pos = (p : Int)) (hm : r.num = (m : Int)) (h255 : m < 255) : CutsI (S ++ [r]) p ((zs ++ [(m : Int)]) ++ [(m : Int) + 1]) := fun x => by
  rw [List.mem_append, List.mem_append, h x, List.mem_singleton, List.mem_singleton]
  simp only [isCut_snoc, hr, hm, beq_self_eq_true, Bool.true_and, Bool.or_eq_true, beq_iff_eq]
  constructor
  · rintro ((⟨n, rfl, h1, h2⟩ | rfl) | rfl)
    · exact ⟨n, rfl, h1, .inl h2⟩
    · exact ⟨m, rfl, by omega, .inr (.inl rfl)⟩
    · exact ⟨m + 1, by omega, by omega, .inr (.inr (by omega))⟩
  · rintro ⟨n, rfl, h1, h2 | h2 | h2⟩
    · exact .inl (.inl ⟨n, rfl, h1, h2⟩)
    · exact .inl (.inr h2.symm)
    · exact .inr h2.symm
theorem RowI.snoc {W : World} {base : Nat} {v : Value} {l : List Int} {x : Int} (h : W.ownsRow base 3 1 v (l.length + 1) (l.map (Value.int .i64) ++ (#[.int .i64 x] : Array Value).toList)) : RowI W base v (l ++ [x]) := by
  simpa [RowI] using h
theorem RowI.shape {W : World} {base : Nat} {v : Value} {l : List Int} (h : RowI W base v l) : ∃ (A : Option Addr) (c : Nat), v = .slice A l.length c ∧ (l ≠ [] → ∃ b, A = some ⟨b, 0, none⟩) := by
  obtain ⟨h0, h1⟩ := h
  rcases h1 with ⟨rfl, hn⟩ | ⟨g, cap, cur, rfl, _⟩
  · have : l = [] := List.length_eq_zero_iff.1 hn
    subst this
    exact ⟨none, 0, rfl, fun h => absurd rfl h⟩
  · exact ⟨_, cap, rfl, fun _ => ⟨g, rfl⟩⟩
theorem rowI_below {w W W' : World} {v : Value} {l : List Int} (hB : Below w.heap.size w W) (h : RowI W w.heap.size v l) (hG : W.grownBy W' v.ownBlock) : Below w.heap.size w W' :=
  hB.grown hG hB.size (fun k hk => (World.ownsRow.lt h k hk).1)
theorem rows_apart {W : World} {b1 b2 e1 e2 s1 s2 n1 n2 : Nat} {v1 v2 : Value} {x1 x2 : List Value} (h1 : W.ownsRow b1 e1 s1 v1 n1 x1) (h2 : W.ownsRow b2 e2 s2 v2 n2 x2) (hne : e1 ≠ e2) : v1.ownBlock = none ∨ v1.ownBlock ≠ v2.ownBlock :=
  OwnP.apart (p := fun _ => True) (q := fun _ => True) ⟨x1, h1, fun _ _ => trivial⟩ ⟨x2, h2, fun _ _ => trivial⟩ hne
theorem row_notBlk {W : World} {b e s n g : Nat} {v : Value} {x : List Value} {t : TypeId} {cs : Array Value} (h : W.ownsRow b e s v n x) (hb : Blk W g t cs) (hne : e ≠ t) : some g ≠ v.ownBlock := fun e1 =>
  OwnP.notBlk (p := fun _ => True) ⟨x, h, fun _ _ => trivial⟩ hb hne e1.symm
theorem c_Compact' (base g cap n : Nat) (zs : List Int) (W : World) (hn : zs.length = n) (h : RowI W base (.slice (some ⟨g, 0, none⟩) n cap) zs) (hl : n ≤ 100000) : Calls Tryz.prog 60 #[.slice (some ⟨g, 0, none⟩) n cap] W fun e w' => e = .returned (.slice (some ⟨g, 0, none⟩) (Lib.compact zs).length cap) ∧ RowI w' base (.slice (some ⟨g, 0, none⟩) (Lib.compact zs).length cap) (Lib.compact zs) ∧ W.grownBy w' (some g) := by
  subst hn
  exact c_Compact base g cap zs W h hl
set_option maxRecDepth 100000
set_option maxHeartbeats 4000000
theorem c_cuts (A B : Option Addr) (xs ys : List Ru) (ca cb p : Nat) (w : World) (h1 : RuSl w (.slice A xs.length ca) xs) (h2 : RuSl w (.slice B ys.length cb) ys) (hoa : xs.all Ru.ok = true) (hob : ys.all Ru.ok = true) (hna : xs.length ≤ 1000) (hnb : ys.length ≤ 1000) : Calls Tryz.prog 39 #[.slice A xs.length ca, .slice B ys.length cb, .int .i64 p] w fun e w' => ∃ v, e = .returned v ∧ Row w' w.heap.size v (cutsOf (xs ++ ys) p) ∧ Below w.heap.size w w' := by
  have hO0 : RowI (w.alloc (.cells #[.int .i64 0] 3)) w.heap.size (.slice (some ⟨w.heap.size, 0, none⟩) 1 1) [0] := ⟨rfl, .inr ⟨w.heap.size, 1, #[.int .i64 0], rfl, Nat.le_refl _, Blk.new w _ _, by simp, by unfold maxLen; omega, rfl, rfl⟩⟩
  have hb0 := below_new w (.cells #[.int .i64 0] 3)
  have g1 := (h1.bl hb0).bl (below_new _ (.cells #[.slice A xs.length ca, .slice B ys.length cb] 23))
  have g2 := (h2.bl hb0).bl (below_new _ (.cells #[.slice A xs.length ca, .slice B ys.length cb] 23))
  have hoS : (xs ++ ys).all Ru.ok = true := by rw [List.all_append, hoa, hob]; rfl
  have hnS : (xs ++ ys).length ≤ 2000 := by simp; omega
  obtain ⟨S, hSe⟩ : ∃ S, xs ++ ys = S := ⟨_, rfl⟩
  rw [hSe] at hoS hnS ⊢
  have hSe := Lib.hid hSe
  go_enter Tryz.func39, Tryz.ntmps39
  go_wp2_with (go_at_call 58; ((with_reducible refine (c_Concat _ _ xs ys _ (w.heap.size + 1) _ (Blk.new' (by simp) _ _) g1 g2 hna hnb).mono ?_); rintro e w1 ⟨v3, rfl, hR, hb1⟩; rw [hSe.out] at hR; obtain ⟨A3, c3, rfl, _, _⟩ := RuRow.sl hR; have hR := RuRow.low hR (base' := w.heap.size) (by simp; omega)))
  have hO1 := (hO0.alloc (.cells #[.slice A xs.length ca, .slice B ys.length cb] 23))
  have hb2 := below_alloc hb0 (.cells #[.slice A xs.length ca, .slice B ys.length cb] 23)
  have hO1 := hO1.kept (gr_of_below hb1 none) (.inr (by simp [Value.ownBlock]))
  have hb2 := below_step (w := w) hb2 hb1
  clear hb1 g1 g2 h1 h2 hO0 hb0
  go_loopw [7, 16] (fun v i W => ∃ (k : Nat) (l : List Int) (A7 : Option Addr) (c7 : Nat), i = .int .i64 k ∧ k ≤ S.length ∧ v = .slice A7 l.length c7 ∧ RowI W w.heap.size (.slice A7 l.length c7) l ∧ CutsI (S.take k) p l ∧ l.length ≤ 1 + 2 * k ∧ Below w.heap.size w W ∧ RuRow W w.heap.size (.slice A3 S.length c3) S) (fun _ i _ => S.length - (intOf i).toNat)
  case atStart => exact ⟨0, [0], _, _, rfl, by omega, rfl, hO1, by simpa using cutsI_start p, by simp, hb2, hR⟩
  case round =>
    obtain ⟨k, l, A7, c7, rfl, hk, rfl, hO, hC, hl, hB, hR⟩ := hrel
    by_cases hk2 : k < S.length
    · have hd : decide (k < S.length) = true := decide_eq_true hk2
      obtain ⟨⟨q, o, n, v, e⟩, hx⟩ : ∃ x, S[k]? = some x := ⟨S[k], List.getElem?_eq_getElem hk2⟩
      have hxo : Ru.ok ⟨q, o, n, v, e⟩ = true := List.all_eq_true.1 hoS _ (List.mem_of_getElem? hx)
      have hn : 0 ≤ n ∧ n ≤ 255 := by
        simp only [Ru.ok, Bool.and_eq_true, inB_true] at hxo
        exact hxo.1.1.1.2
      obtain ⟨m, rfl⟩ : ∃ m : Nat, n = m := ⟨n.toNat, by omega⟩
      have hm : m ≤ 255 := by omega
      have htk : S.take (k + 1) = S.take k ++ [⟨q, o, m, v, e⟩] := by
        rw [List.take_add_one, hx]; rfl
      obtain ⟨A9, c9, e9, hS, _⟩ := RuRow.sl hR
      simp only [Value.slice.injEq, true_and] at e9
      obtain ⟨rfl, rfl⟩ := e9
      obtain ⟨ad, rfl, hc⟩ := hS k _ hx
      have c0 : wr.cell? ⟨ad, k * 5, none⟩ = some (.int .i64 q) := hc 0 _ rfl
      have c1 : wr.cell? ⟨ad, k * 5 + 1, none⟩ = some (.int .i64 o) := hc 1 _ rfl
      have c2 : wr.cell? ⟨ad, k * 5 + 2, none⟩ = some (.int .i64 m) := hc 2 _ rfl
      have c3' : wr.cell? ⟨ad, k * 5 + 3, none⟩ = some (.int .i64 v) := hc 3 _ rfl
      have c4 : wr.cell? ⟨ad, k * 5 + 4, none⟩ = some (.int .i64 e) := hc 4 _ rfl
      clear hc hx hxo hn
      have htk := Lib.hid htk
      have hX := Blk.new wr 40 #[.int .i64 q, .int .i64 o, .int .i64 m, .int .i64 v, .int .i64 e]
      have hO := hO.alloc (.cells #[.int .i64 q, .int .i64 o, .int .i64 m, .int .i64 v, .int .i64 e] 40)
      have hR := hR.alloc (.cells #[.int .i64 q, .int .i64 o, .int .i64 m, .int .i64 v, .int .i64 e] 40)
      have hB := below_alloc hB (.cells #[.int .i64 q, .int .i64 o, .int .i64 m, .int .i64 v, .int .i64 e] 40)
      obtain ⟨x0, x1, x2, x3, x4⟩ := hX.cells5
      rcases Bool.eq_false_or_eq_true (q == (p : Int)) with hq | hq
      · rcases Nat.lt_or_ge m 255 with h255 | h255
        · have hd2 : decide ((m : Int) < 255) = true := by simp; omega
          have hC2 := Lib.hid (cutsI_two hC ⟨q, o, m, v, e⟩ m (by simpa using hq) rfl h255)
          go_wp2_with (first | (at_builtin; ((with_reducible refine app_lit elt_int rfl _ _ rfl _ (#[.int .i64 m]) _ w.heap.size (.slice A7 l.length c7) _ _ rfl _ _ _ rfl ?_ ?_ ?_ hO ?_ ?_ ?_ ?_); simp; rfl; simp [Value.oneCell']; omega; (unfold maxLen; omega); (exact hB.size); intro v' w2 hO2 hG2; have hX2 := hX.grown hG2 (row_notBlk hO hX (by decide)); have hR2 := hR.kept hG2 (rows_apart hR hO (by decide)); have hB2 := rowI_below hB hO hG2; have hO2 := RowI.snoc hO2; obtain ⟨A8, c8, rfl, _⟩ := RowI.shape hO2; (try simp only [List.length_append, List.length_singleton] at hO2); obtain ⟨y0, y1, y2, y3, y4⟩ := hX2.cells5)) | (at_builtin; ((with_reducible refine app_lit elt_int rfl _ _ rfl _ (#[.int .i64 ((m : Int) + 1)]) _ w.heap.size (.slice A8 (l.length + 1) c8) _ _ rfl _ _ _ rfl ?_ ?_ ?_ hO2 ?_ ?_ ?_ ?_); simp; rfl; simp [Value.oneCell']; (simp; omega); (unfold maxLen; simp; omega); (exact hB2.size); intro v'' w3 hO3 hG3; have hR3 := hR2.kept hG3 (rows_apart hR2 hO2 (by decide)); have hB3 := hB2.grown hG3 hB2.size (fun k hk => (World.ownsRow.lt hO2 k hk).1); have hO3 := RowI.snoc hO3; obtain ⟨A9, c9, rfl, _⟩ := RowI.shape hO3)))
          exact ⟨⟨k + 1, (l ++ [(m : Int)]) ++ [(m : Int) + 1], A9, c9, by go_num, by omega, by simp, hO3, by rw [htk.out]; exact hC2.out, by simp; omega, hB3, hR3⟩, by simp [intOf]; omega⟩
        · have hd2 : decide ((m : Int) < 255) = false := by simp; omega
          have hC2 := Lib.hid (cutsI_one hC ⟨q, o, m, v, e⟩ m (by simpa using hq) rfl (by omega))
          go_wp2_with (at_builtin; ((with_reducible refine app_lit elt_int rfl _ _ rfl _ (#[.int .i64 m]) _ w.heap.size (.slice A7 l.length c7) _ _ rfl _ _ _ rfl ?_ ?_ ?_ hO ?_ ?_ ?_ ?_); simp; rfl; simp [Value.oneCell']; omega; (unfold maxLen; omega); (exact hB.size); intro v' w2 hO2 hG2; have hX2 := hX.grown hG2 (row_notBlk hO hX (by decide)); have hR2 := hR.kept hG2 (rows_apart hR hO (by decide)); have hB2 := rowI_below hB hO hG2; have hO2 := RowI.snoc hO2; obtain ⟨A8, c8, rfl, _⟩ := RowI.shape hO2; (try simp only [List.length_append, List.length_singleton] at hO2); obtain ⟨y0, y1, y2, y3, y4⟩ := hX2.cells5))
          exact ⟨⟨k + 1, l ++ [(m : Int)], A8, c8, by go_num, by omega, by simp, by simpa using hO2, by rw [htk.out]; exact hC2.out, by simp; omega, hB2, hR2⟩, by simp [intOf]; omega⟩
      · have hC2 := Lib.hid (cutsI_skip hC ⟨q, o, m, v, e⟩ (by simpa using hq))
        go_wp2_with fail
        exact ⟨⟨k + 1, l, A7, c7, by go_num, by omega, rfl, hO, by rw [htk.out]; exact hC2.out, by omega, hB, hR⟩, by simp [intOf]; omega⟩
    · have hd : decide (k < S.length) = false := decide_eq_false hk2
      have ej : S.take k = S := List.take_of_length_le (by omega)
      rw [ej] at hC
      have hl0 : l ≠ [] := fun e => by
        have := (hC 0).2 ⟨0, rfl, by omega, by simp [isCut]⟩
        rw [e] at this
        simp at this
      obtain ⟨A9, c9, e9, hA⟩ := RowI.shape hO
      simp only [Value.slice.injEq, true_and] at e9
      obtain ⟨rfl, rfl⟩ := e9
      obtain ⟨b, rfl⟩ := hA hl0
      have hbw : w.heap.size ≤ b := (World.ownsRow.lt hO b rfl).1
      have hl2 : l.length ≤ 100000 := by omega
      have hsl : (srt l).length = l.length := (srt_perm l).length_eq
      have hsl := Lib.hid hsl
      have hcc := Lib.hid (cuts_of hC)
      clear hC hl0 hl hR
      go_wp2_with (first | (go_at_call 59; ((with_reducible refine (c_Sort _ _ _ _ _ hO hl2).mono ?_); rintro e w2 ⟨rfl, hO2, hG2⟩; have hB2 := hB.grown hG2 hB.size (fun k hk => by cases hk; exact hbw))) | (go_at_call 60; ((with_reducible refine (c_Compact' _ _ _ _ _ _ hsl.out hO2 hl2).mono ?_); rintro e w3 ⟨rfl, hO3, hG3⟩; have hB3 := hB2.grown hG3 hB2.size (fun k hk => by cases hk; exact hbw))))
      go_ret
      refine ⟨_, rfl, ?_, hB3⟩
      rw [hcc.out] at hO3
      have hO4 := RowI.row hO3
      rw [List.length_map] at hO4
      rw [hcc.out, List.length_map]
      exact hO4
end Go.Proofs.YtlofelnfcdbedaaGreat.S
namespace Go.Proofs.YtlofelnfcdbedaaGreat.S
open Go.RowKit Go.BigFrame Go.Sort
set_option linter.unusedVariables false
set_option linter.unusedSimpArgs false

/-- Two slices of rules that are ok. -/
structure TwoS (w : World) (A : Option Addr) (ca : Nat) (B : Option Addr) (cb : Nat) (xs ys : List Ru) : Prop where
  a : RuSl w (.slice A xs.length ca) xs
  b : RuSl w (.slice B ys.length cb) ys
  oka : xs.all Ru.ok = true
  okb : ys.all Ru.ok = true
  na : xs.length ≤ 1000
  nb : ys.length ≤ 1000
theorem TwoS.bl {w w' : World} {A B : Option Addr} {ca cb : Nat} {xs ys : List Ru} (h : TwoS w A ca B cb xs ys) (hb : Below w.heap.size w w') : TwoS w' A ca B cb xs ys := ⟨h.a.bl hb, h.b.bl hb, h.oka, h.okb, h.na, h.nb⟩
theorem RuSl.at_ {w : World} {A : Option Addr} {c : Nat} {rs : List Ru} (h : RuSl w (.slice A rs.length c) rs) : RuAt w A rs := by
  obtain ⟨A', c', e, h, _⟩ := h
  simp only [Value.slice.injEq, true_and] at e
  obtain ⟨rfl, rfl⟩ := e
  exact h
set_option maxRecDepth 100000
set_option maxHeartbeats 2000000
theorem c_pieces (A B : Option Addr) (xs ys : List Ru) (ca cb : Nat) (w : World) (h : TwoS w A ca B cb xs ys) : Calls Tryz.prog 24 #[.slice A xs.length ca, .slice B ys.length cb] w fun e w' => e = .returned (.int .i64 (waysTo (xs ++ ys) 12)) ∧ Below w.heap.size w w' := by
  go_enter Tryz.func24, Tryz.ntmps24
  go_wp2
  go_loopw [5, 7] (fun v i W => ∃ k : Nat, i = .int .i64 k ∧ k ≤ 12 ∧ v = .int .i64 (waysTo (xs ++ ys) k) ∧ Below w.heap.size w W) (fun _ i _ => 12 - (intOf i).toNat)
  case atStart => exact ⟨0, rfl, by omega, rfl, Below.refl _ _⟩
  case round =>
    obtain ⟨k, rfl, hk, rfl, hB⟩ := hrel
    by_cases hk2 : k < 12
    · have hd : decide (k < 12) = true := decide_eq_true hk2
      have hd' : decide ((k : Int) < 12) = true := by simp; omega
      have hT := h.bl hB
      go_wp2_with (go_at_call 39; ((with_reducible refine (c_cuts _ _ _ _ _ _ _ _ hT.a hT.b hT.oka hT.okb hT.na hT.nb).mono ?_); rintro e w1 ⟨v1, rfl, hO, hb1⟩; obtain ⟨A1, c1, rfl, hOc⟩ := Row.shape hO; clear hO; have hB := below_step (w := w) hB hb1))
      exact ⟨⟨k + 1, by go_num, by omega, rfl, hB⟩, by simp [intOf]; omega⟩
    · obtain rfl : k = 12 := by omega
      go_wp2
      go_ret
      exact ⟨rfl, hB⟩
theorem c_RulesOk_v {rs : List Ru} {x : Bool} (hx : okB rs = x) (A : Option Addr) (c : Nat) (w : World) (h : RuAt w A rs) (hn : rs.length ≤ 1000) : Calls Tryz.prog 22 #[.slice A rs.length c] w fun e w' => e = .returned (.bool x) ∧ Below w.heap.size w w' :=
  (c_RulesOk A rs c w h hn).mono fun _ _ e => ⟨by rw [e.1, hx], e.2⟩
theorem c_looked (A B : Option Addr) (xs ys : List Ru) (ca cb : Nat) (w : World) (ha : RuSl w (.slice A xs.length ca) xs) (hb : RuSl w (.slice B ys.length cb) ys) (hna : xs.length ≤ 1000) (hnb : ys.length ≤ 1000) : Calls Tryz.prog 15 #[.slice A xs.length ca, .slice B ys.length cb] w fun e w' => e = .returned (.bool (lookB xs ys)) ∧ Below w.heap.size w w' := by
  have hB := Below.refl w.heap.size w
  rcases Bool.eq_false_or_eq_true (okB xs) with hx | hx
  · rcases Bool.eq_false_or_eq_true (okB ys) with hy | hy
    · have hr : lookB xs ys = decide (waysTo (xs ++ ys) 12 ≤ 400) := by simp [lookB, hx, hy]
      rw [hr]
      clear hr
      go_enter Tryz.func15, Tryz.ntmps15
      go_wp2_with (first | (go_at_call 22; ((with_reducible refine (c_RulesOk_v hx _ _ _ ha.at_ hna).mono ?_); rintro e w1 ⟨rfl, hb1⟩; have ha := ha.bl hb1; have hb := hb.bl hb1; have hB := below_step (w := w) hB hb1)) | (go_at_call 22; ((with_reducible refine (c_RulesOk_v hy _ _ _ hb.at_ hnb).mono ?_); rintro e w1 ⟨rfl, hb1⟩; have ha := ha.bl hb1; have hb := hb.bl hb1; have hB := below_step (w := w) hB hb1)) | (go_at_call 24; ((with_reducible refine (c_pieces _ _ _ _ _ _ _ ⟨ha, hb, okB_all hx, okB_all hy, hna, hnb⟩).mono ?_); rintro e w1 ⟨rfl, hb1⟩; have ha := ha.bl hb1; have hb := hb.bl hb1; have hB := below_step (w := w) hB hb1)))
      go_ret
      exact ⟨rfl, hB⟩
    · have hr : lookB xs ys = false := by simp [lookB, hx, hy]
      rw [hr]
      clear hr
      go_enter Tryz.func15, Tryz.ntmps15
      go_wp2_with (first | (go_at_call 22; ((with_reducible refine (c_RulesOk_v hx _ _ _ ha.at_ hna).mono ?_); rintro e w1 ⟨rfl, hb1⟩; have ha := ha.bl hb1; have hb := hb.bl hb1; have hB := below_step (w := w) hB hb1)) | (go_at_call 22; ((with_reducible refine (c_RulesOk_v hy _ _ _ hb.at_ hnb).mono ?_); rintro e w1 ⟨rfl, hb1⟩; have ha := ha.bl hb1; have hb := hb.bl hb1; have hB := below_step (w := w) hB hb1)) | (go_at_call 24; ((with_reducible refine (c_pieces _ _ _ _ _ _ _ ⟨ha, hb, okB_all hx, okB_all hy, hna, hnb⟩).mono ?_); rintro e w1 ⟨rfl, hb1⟩; have ha := ha.bl hb1; have hb := hb.bl hb1; have hB := below_step (w := w) hB hb1)))
      go_ret
      exact ⟨rfl, hB⟩
  · have hr : lookB xs ys = false := by simp [lookB, hx]
    rw [hr]
    clear hr
    go_enter Tryz.func15, Tryz.ntmps15
    go_wp2_with (first | (go_at_call 22; ((with_reducible refine (c_RulesOk_v hx _ _ _ ha.at_ hna).mono ?_); rintro e w1 ⟨rfl, hb1⟩; have ha := ha.bl hb1; have hb := hb.bl hb1; have hB := below_step (w := w) hB hb1)) | (go_at_call 22; ((with_reducible refine (c_RulesOk_v hy _ _ _ hb.at_ hnb).mono ?_); rintro e w1 ⟨rfl, hb1⟩; have ha := ha.bl hb1; have hb := hb.bl hb1; have hB := below_step (w := w) hB hb1)) | (go_at_call 24; ((with_reducible refine (c_pieces _ _ _ _ _ _ _ ⟨ha, hb, okB_all hx, okB_all hy, hna, hnb⟩).mono ?_); rintro e w1 ⟨rfl, hb1⟩; have ha := ha.bl hb1; have hb := hb.bl hb1; have hB := below_step (w := w) hB hb1)))
    go_ret
    exact ⟨rfl, hB⟩
/-- How many pieces two lists of rules tell apart, -1 if they are not ok. -/
def piecesR (xs ys : List Ru) : Int := if okB xs && okB ys then waysTo (xs ++ ys) 12 else -1
theorem c_SamePieces (A B : Option Addr) (xs ys : List Ru) (ca cb : Nat) (w : World) (ha : RuSl w (.slice A xs.length ca) xs) (hb : RuSl w (.slice B ys.length cb) ys) (hna : xs.length ≤ 1000) (hnb : ys.length ≤ 1000) : Calls Tryz.prog 10 #[.slice A xs.length ca, .slice B ys.length cb] w fun e w' => e = .returned (.int .i64 (piecesR xs ys)) ∧ Below w.heap.size w w' := by
  have hB := Below.refl w.heap.size w
  rcases Bool.eq_false_or_eq_true (okB xs) with hx | hx
  · rcases Bool.eq_false_or_eq_true (okB ys) with hy | hy
    · have hr : piecesR xs ys = waysTo (xs ++ ys) 12 := by simp [piecesR, hx, hy]
      rw [hr]
      clear hr
      go_enter Tryz.func10, Tryz.ntmps10
      go_wp2_with (first | (go_at_call 22; ((with_reducible refine (c_RulesOk_v hx _ _ _ ha.at_ hna).mono ?_); rintro e w1 ⟨rfl, hb1⟩; have ha := ha.bl hb1; have hb := hb.bl hb1; have hB := below_step (w := w) hB hb1)) | (go_at_call 22; ((with_reducible refine (c_RulesOk_v hy _ _ _ hb.at_ hnb).mono ?_); rintro e w1 ⟨rfl, hb1⟩; have ha := ha.bl hb1; have hb := hb.bl hb1; have hB := below_step (w := w) hB hb1)) | (go_at_call 24; ((with_reducible refine (c_pieces _ _ _ _ _ _ _ ⟨ha, hb, okB_all hx, okB_all hy, hna, hnb⟩).mono ?_); rintro e w1 ⟨rfl, hb1⟩; have ha := ha.bl hb1; have hb := hb.bl hb1; have hB := below_step (w := w) hB hb1)))
      go_ret
      exact ⟨rfl, hB⟩
    · have hr : piecesR xs ys = -1 := by simp [piecesR, hx, hy]
      rw [hr]
      clear hr
      go_enter Tryz.func10, Tryz.ntmps10
      go_wp2_with (first | (go_at_call 22; ((with_reducible refine (c_RulesOk_v hx _ _ _ ha.at_ hna).mono ?_); rintro e w1 ⟨rfl, hb1⟩; have ha := ha.bl hb1; have hb := hb.bl hb1; have hB := below_step (w := w) hB hb1)) | (go_at_call 22; ((with_reducible refine (c_RulesOk_v hy _ _ _ hb.at_ hnb).mono ?_); rintro e w1 ⟨rfl, hb1⟩; have ha := ha.bl hb1; have hb := hb.bl hb1; have hB := below_step (w := w) hB hb1)) | (go_at_call 24; ((with_reducible refine (c_pieces _ _ _ _ _ _ _ ⟨ha, hb, okB_all hx, okB_all hy, hna, hnb⟩).mono ?_); rintro e w1 ⟨rfl, hb1⟩; have ha := ha.bl hb1; have hb := hb.bl hb1; have hB := below_step (w := w) hB hb1)))
      go_ret
      exact ⟨rfl, hB⟩
  · have hr : piecesR xs ys = -1 := by simp [piecesR, hx]
    rw [hr]
    clear hr
    go_enter Tryz.func10, Tryz.ntmps10
    go_wp2_with (first | (go_at_call 22; ((with_reducible refine (c_RulesOk_v hx _ _ _ ha.at_ hna).mono ?_); rintro e w1 ⟨rfl, hb1⟩; have ha := ha.bl hb1; have hb := hb.bl hb1; have hB := below_step (w := w) hB hb1)) | (go_at_call 22; ((with_reducible refine (c_RulesOk_v hy _ _ _ hb.at_ hnb).mono ?_); rintro e w1 ⟨rfl, hb1⟩; have ha := ha.bl hb1; have hb := hb.bl hb1; have hB := below_step (w := w) hB hb1)) | (go_at_call 24; ((with_reducible refine (c_pieces _ _ _ _ _ _ _ ⟨ha, hb, okB_all hx, okB_all hy, hna, hnb⟩).mono ?_); rintro e w1 ⟨rfl, hb1⟩; have ha := ha.bl hb1; have hb := hb.bl hb1; have hB := below_step (w := w) hB hb1)))
    go_ret
    exact ⟨rfl, hB⟩
/-- The verdict and the key of rules on bytes. -/
def ofR (rs : List Ru) (s : ByteArray) : Int × Int := if okB rs && s.size == 12 then verd rs s.data.toList else (-1, 0)
theorem c_RulesOf (A : Option Addr) (rs : List Ru) (c : Nat) (s : ByteArray) (w : World) (h : RuAt w A rs) (hn : rs.length ≤ 1000) : Calls Tryz.prog 9 #[.slice A rs.length c, .string s] w fun e w' => e = .returned (verV (ofR rs s)) ∧ Below w.heap.size w w' := by
  have hB := Below.refl w.heap.size w
  rcases Bool.eq_false_or_eq_true (okB rs) with hx | hx
  · by_cases hs : s.size = 12
    · have hr : ofR rs s = verd rs s.data.toList := by simp [ofR, hx, hs]
      rw [hr]
      clear hr
      have hp := posOk_of (okB_all hx)
      obtain ⟨⟨v1, v2⟩, hv⟩ : ∃ v, verd rs s.data.toList = v := ⟨_, rfl⟩
      rw [hv]
      have hv := Lib.hid hv
      have hc := fun w' h' => (c_ruled A rs c s w' h' hp hs hn).mono fun e w'' (q : e = _ ∧ _) => (⟨by rw [q.1, hv.out]; rfl, q.2⟩ : e = .returned (.tuple #[.int .i64 v1, .int .i64 v2]) ∧ _)
      go_enter Tryz.func9, Tryz.ntmps9
      go_wp2_with (first | (go_at_call 22; ((with_reducible refine (c_RulesOk_v hx _ _ _ h hn).mono ?_); rintro e w1 ⟨rfl, hb1⟩; have h := h.bl hb1; have hB := below_step (w := w) hB hb1)) | (go_at_call 23; ((with_reducible refine (hc _ h).mono ?_); rintro e w1 ⟨rfl, hb1⟩; have hB := below_step (w := w) hB hb1)))
      go_ret2
      exact ⟨rfl, hB⟩
    · have hr : ofR rs s = (-1, 0) := by simp [ofR, hs]
      rw [hr]
      clear hr
      have hs' : ((s.size : Int) == 12) = false := by simp; omega
      have hs2 : (s.size == 12) = false := by simp [hs]
      go_enter Tryz.func9, Tryz.ntmps9
      go_wp2_with (go_at_call 22; ((with_reducible refine (c_RulesOk_v hx _ _ _ h hn).mono ?_); rintro e w1 ⟨rfl, hb1⟩; have h := h.bl hb1; have hB := below_step (w := w) hB hb1))
      all_goals first
        | (exfalso; omega)
        | (go_ret2; exact ⟨rfl, hB⟩)
  · have hr : ofR rs s = (-1, 0) := by simp [ofR, hx]
    rw [hr]
    clear hr
    go_enter Tryz.func9, Tryz.ntmps9
    go_wp2_with (go_at_call 22; ((with_reducible refine (c_RulesOk_v hx _ _ _ h hn).mono ?_); rintro e w1 ⟨rfl, hb1⟩; have h := h.bl hb1; have hB := below_step (w := w) hB hb1))
    go_ret2
    exact ⟨rfl, hB⟩
end Go.Proofs.YtlofelnfcdbedaaGreat.S
