/- Cuts of a byte: what the reference finds. Cuts of a byte: what the reference finds: the walk. Pieces: how many the reference counts. -/
import Derived.Test.YtlofelnfcdbedaaGreatK23
namespace Go.Proofs.YtlofelnfcdbedaaGreat.S
open Go.RowKit Go.BigFrame Go.Sort
set_option linter.unusedVariables false
set_option linter.unusedSimpArgs false

def flagsA (S : List Ru) (p : Nat) : Array Value := ((List.range 257).map fun n => Value.bool (isCut S p n)).toArray
theorem flags_size (S : List Ru) (p : Nat) : (flagsA S p).size = 257 := by simp [flagsA]
theorem flags_get (S : List Ru) (p n : Nat) (h : n < 257) : (flagsA S p)[n]? = some (.bool (isCut S p n)) := by
  simp [flagsA, List.getElem?_range h]
theorem flags_start (p : Nat) : (madeCells (Value.cells (.bool false)) (257 * 1)).setIfInBounds 0 (.bool true) = flagsA [] p := by
  apply Array.ext_getElem?
  intro n
  by_cases h : n < 257
  · rw [flags_get _ _ _ h]
    rcases Nat.eq_zero_or_pos n with rfl | h0
    · simp [madeCells, isCut]
    · have h0' : (0 : Nat) ≠ n := by omega
      simp [madeCells, isCut, Array.getElem?_setIfInBounds, h0', h, Value.cells, Nat.mod_one]
      omega
  · rw [Array.getElem?_eq_none (by simp [madeCells]; omega), Array.getElem?_eq_none (by rw [flags_size]; omega)]
theorem isCut_snoc (S : List Ru) (r : Ru) (p n : Nat) : isCut (S ++ [r]) p n = (isCut S p n || (r.pos == (p : Int) && (r.num == (n : Int) || r.num + 1 == (n : Int)))) := by
  simp [isCut, Bool.or_assoc]
theorem flags_skip (S : List Ru) (r : Ru) (p : Nat) (h : (r.pos == (p : Int)) = false) : flagsA (S ++ [r]) p = flagsA S p := by
  unfold flagsA
  congr 1
  apply List.map_congr_left
  intro n _
  rw [isCut_snoc, h]
  simp
theorem flags_step (S : List Ru) (q o v k : Int) (m p : Nat) (h : (q == (p : Int)) = true) (hm : m ≤ 255) : ((flagsA S p).setIfInBounds m (.bool true)).setIfInBounds (m + 1) (.bool true) = flagsA (S ++ [⟨q, o, m, v, k⟩]) p := by
  apply Array.ext_getElem?
  intro n
  by_cases hn : n < 257
  · rw [flags_get _ _ _ hn, isCut_snoc]
    simp only [h, Bool.true_and]
    rw [Array.getElem?_setIfInBounds, Array.getElem?_setIfInBounds, flags_get _ _ _ hn]
    by_cases h1 : m + 1 = n
    · subst h1
      simp [flags_size, hm]
      omega
    · by_cases h2 : m = n
      · subst h2
        simp [flags_size, hn]
      · have e1 : ((m : Int) == (n : Int)) = false := by simp; omega
        have e2 : ((m : Int) + 1 == (n : Int)) = false := by simp; omega
        simp [h1, h2, e1, e2]
  · rw [Array.getElem?_eq_none (by simp [flags_size]; omega), Array.getElem?_eq_none (by rw [flags_size]; omega)]
theorem info_bool : (Tryz.prog.info? 4).map (fun i => (i.zero, i.size, i.bytes)) = some (some (.bool false), 1, 1) := by kernel_rfl
theorem mk257 (w : World) : (Instr.makeSlice 79 (.int .i64 257) (.int .i64 257)).run Tryz.prog w = .ok (.slice (some ⟨w.heap.size, 0, none⟩) 257 257) (w.alloc (.cells (madeCells (Value.cells (.bool false)) (257 * 1)) 4)) := by
  obtain ⟨i, hi, hz, h2, h3⟩ := info_parts info_bool
  have := run_make (P := Tryz.prog) w 79 4 i (.bool false) Tryz.underlying79 hi hz .i64 .i64 257 257 (by decide) (by decide) (by rw [h3]; decide) (by decide)
  rw [h2] at this
  exact this
end Go.Proofs.YtlofelnfcdbedaaGreat.S
namespace Go.Proofs.YtlofelnfcdbedaaGreat.S
open Go.RowKit Go.BigFrame Go.Sort
set_option linter.unusedVariables false
set_option linter.unusedSimpArgs false

def natV (l : List Nat) : List Value := l.map fun n => .int .i64 ((n : Nat) : Int)
/-- These numbers lie there, in a row of the call's own. -/
abbrev Row (W : World) (base : Nat) (v : Value) (l : List Nat) : Prop := W.ownsRow base 3 1 v l.length (natV l)
theorem Row.ne {W : World} {base g : Nat} {v : Value} {l : List Nat} (h : Row W base v l) (hg : g < base) : some g ≠ v.ownBlock := fun e => by
  have := (World.ownsRow.lt h g e.symm).1
  omega
theorem Row.low {W : World} {base base' : Nat} {v : Value} {l : List Nat} (h : Row W base v l) (hb : base' ≤ base) : Row W base' v l := by
  obtain ⟨h0, h1⟩ := h
  refine ⟨h0, ?_⟩
  rcases h1 with h1 | ⟨g, cap, cur, e, hg, hr⟩
  · exact .inl h1
  · exact .inr ⟨g, cap, cur, e, Nat.le_trans hb hg, hr⟩
theorem row_below {w W W' : World} {base : Nat} {v : Value} {l : List Nat} (hB : Below w.heap.size w W) (h : Row W (w.heap.size + base) v l) (hG : W.grownBy W' v.ownBlock) : Below w.heap.size w W' :=
  hB.grown hG hB.size (fun k hk => by have := (World.ownsRow.lt h k hk).1; omega)
theorem row_yes (S : List Ru) (p k : Nat) (h : isCut S p k = true) : (List.range (k + 1)).filter (isCut S p) = (List.range k).filter (isCut S p) ++ [k] := by
  rw [List.range_succ, List.filter_append]
  simp [h]
theorem row_no (S : List Ru) (p k : Nat) (h : isCut S p k = false) : (List.range (k + 1)).filter (isCut S p) = (List.range k).filter (isCut S p) := by
  rw [List.range_succ, List.filter_append]
  simp [h]
theorem Row.snoc {W : World} {base k : Nat} {v : Value} {l l' : List Nat} (hl : l' = l ++ [k]) (h : W.ownsRow base 3 1 v (l.length + 1) (natV l ++ (#[.int .i64 ((k : Nat) : Int)] : Array Value).toList)) : Row W base v l' := by
  subst hl
  simpa [Row, natV] using h
set_option maxRecDepth 100000
set_option maxHeartbeats 2000000
theorem c_l14Cuts (A B : Option Addr) (xs ys : List Ru) (c ca cb g p : Nat) (w : World) (hg : Blk w g 23 #[.slice A xs.length ca, .slice B ys.length cb]) (ha : RuAt w A xs) (hb : RuAt w B ys) (hoa : xs.all Ru.ok = true) (hob : ys.all Ru.ok = true) (hna : xs.length ≤ 1000) (hnb : ys.length ≤ 1000) : Calls Tryz.prog 29 #[.slice (some ⟨g, 0, none⟩) 2 c, .int .i64 p] w fun e w' => ∃ v, e = .returned v ∧ Row w' w.heap.size v (cutsOf (xs ++ ys) p) ∧ Below w.heap.size w w' := by
  have hmk := mk257 w
  have hF := Lib.hid (flags_start p)
  have hsz : (madeCells (Value.cells (.bool false)) (257 * 1)).size = 257 := by simp [madeCells]
  generalize madeCells (Value.cells (.bool false)) (257 * 1) = F at *
  have hX := Blk.new w 4 F
  have x0 := hX.cell 0
  have x0' : F[0]? = some F[0]! := by
    rw [Array.getElem?_eq_getElem (by omega)]
    simp [hsz]
  rw [x0'] at x0
  have xf := hX.frozen
  go_enter Tryz.func29, Tryz.ntmps29
  go_upto_region 3 with fail
  have hI : Blk (w.alloc (.cells (F.setIfInBounds 0 (.bool true)) 4)) w.heap.size 4 (flagsA [] p) := by
    rw [hF.out]
    exact Blk.new _ _ _
  have hB := below_new w (.cells (F.setIfInBounds 0 (.bool true)) 4)
  have hlo : ∀ (A : Option Addr) (L : List Ru), RuAt w A L → ∀ (ad i : Nat) (x : Ru), L[i]? = some x → A = some ⟨ad, 0, none⟩ → ad < w.heap.size := fun A L hL ad i x hx hA => by
    obtain ⟨b, e1, hc⟩ := hL i x hx
    rw [e1] at hA
    cases hA
    exact World.block_lt_of_cell? w _ (hc 0 _ rfl)
  generalize w.alloc (.cells (F.setIfInBounds 0 (.bool true)) 4) = W0 at *
  have hgl := hg.lt
  clear hmk hF hsz hX x0 x0' xf
  go_wp2
  go_loopw [6] (fun v W => ∃ i : Nat, v = .int .i64 i ∧ i ≤ 2 ∧ Blk W w.heap.size 4 (flagsA (if i = 0 then [] else if i = 1 then xs else xs ++ ys) p) ∧ Below w.heap.size w W) (fun v _ => 2 - (intOf v).toNat)
  case atStart => exact ⟨0, rfl, by omega, hI, hB⟩
  case round =>
    obtain ⟨i, rfl, hi, hI, hB⟩ := hrel
    rcases Nat.lt_or_ge i 2 with hi2 | hi2
    · have hd : decide (i < 2) = true := decide_eq_true hi2
      have hd' : decide ((i : Int) < 2) = true := by simp; omega
      obtain ⟨L, AL, cL, hgi, hL, hLn, hLok, hnx⟩ : ∃ (L : List Ru) (AL : Option Addr) (cL : Nat), w.cell? ⟨g, i, none⟩ = some (.slice AL L.length cL) ∧ RuAt w AL L ∧ L.length ≤ 1000 ∧ L.all Ru.ok = true ∧ (if i + 1 = 0 then [] else if i + 1 = 1 then xs else xs ++ ys) = (if i = 0 then [] else if i = 1 then xs else xs ++ ys) ++ L := by
        rcases (show i = 0 ∨ i = 1 by omega) with rfl | rfl
        · exact ⟨xs, A, ca, hg.cell 0, ha, hna, hoa, by simp⟩
        · exact ⟨ys, B, cb, hg.cell 1, hb, hnb, hob, by simp⟩
      generalize (if i = 0 then [] else if i = 1 then xs else xs ++ ys) = D at *
      have hnx := Lib.hid hnx
      have hgi' := cell_below hB _ _ hgi
      go_wp2
      go_loopw [7] (fun v W => ∃ k : Nat, v = .int .i64 k ∧ k ≤ L.length ∧ Blk W w.heap.size 4 (flagsA (D ++ L.take k) p) ∧ Below w.heap.size w W) (fun v _ => L.length - (intOf v).toNat)
      case atStart => exact ⟨0, rfl, by omega, by simpa using hI, hB⟩
      case round =>
        obtain ⟨k, rfl, hk, hI, hB⟩ := hrel
        have hgi' := cell_below hB _ _ hgi
        by_cases hk2 : k < L.length
        · have hd : decide (k < L.length) = true := decide_eq_true hk2
          obtain ⟨⟨q, o, n, v, e⟩, hx⟩ : ∃ x, L[k]? = some x := ⟨L[k], List.getElem?_eq_getElem hk2⟩
          have hxo : Ru.ok ⟨q, o, n, v, e⟩ = true := List.all_eq_true.1 hLok _ (List.mem_of_getElem? hx)
          have hn : 0 ≤ n ∧ n ≤ 255 := by
            simp only [Ru.ok, Bool.and_eq_true, inB_true] at hxo
            exact hxo.1.1.1.2
          obtain ⟨m, rfl⟩ : ∃ m : Nat, n = m := ⟨n.toNat, by omega⟩
          have hm : m ≤ 255 := by omega
          have hm257 : (m : Int) < 257 := by omega
          have hm257' : (m : Int) + 1 < 257 := by omega
          have htk : L.take (k + 1) = L.take k ++ [⟨q, o, m, v, e⟩] := by
            rw [List.take_add_one, hx]; rfl
          obtain ⟨ad, rfl, hc⟩ := (hL.bl hB) k _ hx
          have hadl := hlo _ L hL ad k _ hx rfl
          have c0 : wr.cell? ⟨ad, k * 5, none⟩ = some (.int .i64 q) := hc 0 _ rfl
          have c2 : wr.cell? ⟨ad, k * 5 + 2, none⟩ = some (.int .i64 m) := hc 2 _ rfl
          clear hc hx hxo hn
          have htk := Lib.hid htk
          rcases Bool.eq_false_or_eq_true (q == (p : Int)) with hq | hq
          · have f0 := hI.cell m
            rw [flags_get _ _ _ (by omega)] at f0
            have ff := hI.frozen
            have hI1 := hI.set_ m (.bool true)
            have f1 := hI1.cell (m + 1)
            rw [Array.getElem?_setIfInBounds, if_neg (by omega), flags_get _ _ _ (by omega)] at f1
            have ff1 := hI1.frozen
            have hI2 := hI1.set_ (m + 1) (.bool true)
            rw [flags_step _ q o v e m p hq hm] at hI2
            have d2 : (wr.setCell ⟨w.heap.size, m, none⟩ (.bool true)).cell? ⟨ad, k * 5 + 2, none⟩ = some (.int .i64 m) := cell_set c2 _ (by simp; omega)
            have dg : (wr.setCell ⟨w.heap.size, m, none⟩ (.bool true)).cell? ⟨g, i, none⟩ = some (.slice (some ⟨ad, 0, none⟩) L.length cL) := cell_set hgi' _ (by simp; omega)
            have hB2 := below_set (below_set hB (p := ⟨w.heap.size, m, none⟩) (Nat.le_refl _) (.bool true)) (p := ⟨w.heap.size, m + 1, none⟩) (Nat.le_refl _) (.bool true)
            go_wp2_with fail
            exact ⟨⟨k + 1, by go_num, by omega, by rw [htk.out, ← List.append_assoc]; exact hI2, hB2⟩, by simp [intOf]; omega⟩
          · rw [← flags_skip _ ⟨q, o, m, v, e⟩ p hq] at hI
            go_wp2_with fail
            exact ⟨⟨k + 1, by go_num, by omega, by rw [htk.out, ← List.append_assoc]; exact hI, hB⟩, by simp [intOf]; omega⟩
        · have hd : decide (k < L.length) = false := decide_eq_false hk2
          have ej : L.take k = L := List.take_of_length_le (by omega)
          rw [ej] at hI
          go_wp2_with fail
          exact ⟨⟨i + 1, by go_num, by omega, by rw [hnx.out]; exact hI, hB⟩, by simp [intOf]; omega⟩
    · obtain rfl : i = 2 := by omega
      simp only [show ¬ (2 = 0) by omega, show ¬ (2 = 1) by omega, if_false] at hI
      have hO : Row (wr.alloc (.cells #[] 3)) (w.heap.size + 1) (.slice (some ⟨wr.heap.size, 0, none⟩) 0 0) [] := World.ownsRow_made wr #[] 0 (by have := hI.lt; omega) (by unfold maxLen; omega) (by simp)
      have hI := hI.alloc (.cells #[] 3)
      have hB := below_alloc hB (.cells #[] 3)
      obtain ⟨S, hS⟩ : ∃ S, xs ++ ys = S := ⟨_, rfl⟩
      rw [hS] at hI
      have hS := Lib.hid hS
      go_wp2_with fail
      generalize wr.alloc (.cells #[] 3) = W1 at *
      go_loopw [8, 9] (fun v i W => ∃ k : Nat, i = .int .i64 k ∧ k ≤ 256 ∧ Row W (w.heap.size + 1) v ((List.range k).filter (isCut S p)) ∧ Blk W w.heap.size 4 (flagsA S p) ∧ Below w.heap.size w W) (fun _ i _ => 256 - (intOf i).toNat)
      case atStart => exact ⟨0, rfl, by omega, hO, hI, hB⟩
      case round =>
        obtain ⟨k, rfl, hk, hO, hI, hB⟩ := hrel
        have hlen : ((List.range k).filter (isCut S p)).length ≤ k := Nat.le_trans (List.length_filter_le _ _) (by simp)
        by_cases hk2 : k < 256
        · have hd : decide (k < 256) = true := decide_eq_true hk2
          have hd' : decide ((k : Int) < 256) = true := by simp; omega
          have hk257 : (k : Int) < 257 := by omega
          have f0 := hI.cell k
          rw [flags_get _ _ _ (by omega)] at f0
          have hl1 := hI.lt
          rcases Bool.eq_false_or_eq_true (isCut S p k) with hc | hc
          · have hrow := Lib.hid (row_yes S p k hc)
            go_wp2_with (at_builtin; ((with_reducible refine app_lit elt_int rfl _ _ rfl _ _ _ (w.heap.size + 1) u8 _ _ rfl _ _ _ rfl ?_ ?_ ?_ hO ?_ ?_ ?_ ?_); simp; rfl; simp [Value.oneCell']; omega; (unfold maxLen; omega); omega; intro v' w' hO' hG'))
            · exact ⟨⟨k + 1, by go_num, by omega, Row.snoc hrow.out hO', hI.grown hG' (hO.ne (by omega)), row_below hB hO hG'⟩, by simp [intOf]; omega⟩
          · have hrow := Lib.hid (row_no S p k hc)
            go_wp2_with fail
            exact ⟨⟨k + 1, by go_num, by omega, by rw [hrow.out]; exact hO, hI, hB⟩, by simp [intOf]; omega⟩
        · obtain rfl : k = 256 := by omega
          go_wp2_with fail
          go_ret
          refine ⟨_, rfl, ?_, hB⟩
          rw [hS.out]
          exact Row.low hO (Nat.le_succ _)
end Go.Proofs.YtlofelnfcdbedaaGreat.S
namespace Go.Proofs.YtlofelnfcdbedaaGreat.S
open Go.RowKit Go.BigFrame Go.Sort
set_option linter.unusedVariables false
set_option linter.unusedSimpArgs false

/-- How many pieces the first bytes part. -/
def waysTo (S : List Ru) : Nat → Int
  | 0 => 1
  | k + 1 => wrap64 (waysTo S k * ((cutsOf S k).length : Int))
/-- Two lists of rules, whole and ok, at two places. -/
structure Two (w : World) (A B : Option Addr) (xs ys : List Ru) : Prop where
  a : RuAt w A xs
  b : RuAt w B ys
  oka : xs.all Ru.ok = true
  okb : ys.all Ru.ok = true
  na : xs.length ≤ 1000
  nb : ys.length ≤ 1000
theorem Two.bl {w w' : World} {A B : Option Addr} {xs ys : List Ru} (h : Two w A B xs ys) (hb : Below w.heap.size w w') : Two w' A B xs ys := ⟨h.a.bl hb, h.b.bl hb, h.oka, h.okb, h.na, h.nb⟩
theorem Two.alloc {w : World} {A B : Option Addr} {xs ys : List Ru} (h : Two w A B xs ys) (o : Obj) : Two (w.alloc o) A B xs ys := h.bl (below_new w o)
theorem c_l14Cuts' (A B : Option Addr) (xs ys : List Ru) (ca cb p : Nat) (w : World) (h : Two w A B xs ys) : Calls Tryz.prog 29 #[.slice (some ⟨w.heap.size, 0, none⟩) 2 2, .int .i64 p] (w.alloc (.cells #[.slice A xs.length ca, .slice B ys.length cb] 23)) fun e w' => ∃ v, e = .returned v ∧ Row w' w.heap.size v (cutsOf (xs ++ ys) p) ∧ Below w.heap.size w w' :=
  have h' := h.alloc (.cells #[.slice A xs.length ca, .slice B ys.length cb] 23)
  (c_l14Cuts A B xs ys 2 ca cb w.heap.size p _ (Blk.new w _ _) h'.a h'.b h'.oka h'.okb h'.na h'.nb).mono fun _ _ ⟨v, e, hr, hb⟩ => ⟨v, e, Row.low hr (by simp), below_step (below_new w _) hb⟩
theorem Row.shape {W : World} {base : Nat} {v : Value} {l : List Nat} (h : Row W base v l) : ∃ (A : Option Addr) (c : Nat), v = .slice A l.length c ∧ ∀ (i n : Nat), l[i]? = some n → ∃ b : Nat, A = some ⟨b, 0, none⟩ ∧ base ≤ b ∧ W.cell? ⟨b, i, none⟩ = some (.int .i64 n) := by
  obtain ⟨h0, h1⟩ := h
  rcases h1 with ⟨rfl, hn⟩ | ⟨g, cap, cur, rfl, hb, hg, hn, hm, hs, ht⟩
  · have : l = [] := List.length_eq_zero_iff.1 hn
    subst this
    exact ⟨none, 0, rfl, fun i n hi => by simp at hi⟩
  · refine ⟨_, cap, rfl, fun i n hi => ⟨g, rfl, hb, ?_⟩⟩
    rw [cell_of_row W g i cur 3 (0, 0) hg]
    have hi' : i < l.length := (List.getElem?_eq_some_iff.1 hi).1
    have e : (natV l)[i]? = some (.int .i64 (n : Int)) := by simp [natV, hi]
    rw [← ht, List.getElem?_take, if_pos (by omega)] at e
    simpa using e
set_option maxRecDepth 100000
set_option maxHeartbeats 2000000
theorem c_l14Ways (A B : Option Addr) (xs ys : List Ru) (ca cb : Nat) (w : World) (h : Two w A B xs ys) : Calls Tryz.prog 18 #[.slice A xs.length ca, .slice B ys.length cb] w fun e w' => e = .returned (.int .i64 (waysTo (xs ++ ys) 12)) ∧ Below w.heap.size w w' := by
  go_enter Tryz.func18, Tryz.ntmps18
  go_wp2
  go_loopw [5, 6] (fun v i W => ∃ k : Nat, i = .int .i64 k ∧ k ≤ 12 ∧ v = .int .i64 (waysTo (xs ++ ys) k) ∧ Below w.heap.size w W) (fun _ i _ => 12 - (intOf i).toNat)
  case atStart => exact ⟨0, rfl, by omega, rfl, Below.refl _ _⟩
  case round =>
    obtain ⟨k, rfl, hk, rfl, hB⟩ := hrel
    by_cases hk2 : k < 12
    · have hd : decide (k < 12) = true := decide_eq_true hk2
      have hd' : decide ((k : Int) < 12) = true := by simp; omega
      have hT := h.bl hB
      go_wp2_with (go_at_call 29; ((with_reducible refine (c_l14Cuts' _ _ _ _ _ _ _ _ hT).mono ?_); rintro e w1 ⟨v1, rfl, hO, hb1⟩; obtain ⟨A1, c1, rfl, hOc⟩ := Row.shape hO; clear hO; have hB := below_step (w := w) hB hb1))
      exact ⟨⟨k + 1, by go_num, by omega, rfl, hB⟩, by simp [intOf]; omega⟩
    · obtain rfl : k = 12 := by omega
      go_wp2
      go_ret
      exact ⟨rfl, hB⟩
end Go.Proofs.YtlofelnfcdbedaaGreat.S
