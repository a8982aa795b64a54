/- How many pieces there are at most; what is found, in plain words. Two lists of rules and what they tell apart: the plain laws; the contracts as the laws' walks take them. -/
import Derived.Test.YtlofelnfcdbedaaGreatK29
import Derived.Test.YtlofelnfcdbedaaGreatK31
import Derived.Test.YtlofelnfcdbedaaGreatK30
import Derived.Test.YtlofelnfcdbedaaGreatK14
namespace Go.Proofs.YtlofelnfcdbedaaGreat.S
open Go.RowKit Go.BigFrame Go.Sort
set_option linter.unusedVariables false
set_option linter.unusedSimpArgs false
theorem nodup_len {l m : List Nat} (hl : l.Nodup) (h : ∀ x ∈ l, x ∈ m) : l.length ≤ m.length := by
  induction l generalizing m with
  | nil => simp
  | cons a l ih =>
    rw [List.nodup_cons] at hl
    have ha := h a (by simp)
    have := ih (m := m.erase a) hl.2 (fun x hx => (List.mem_erase_of_ne (fun e => hl.1 (by rw [← e]; exact hx))).2 (h x (by simp [hx])))
    rw [List.length_erase_of_mem ha] at this
    have := List.length_pos_of_mem ha
    simp
    omega
theorem cuts_len (S : List Ru) (p : Nat) : 1 ≤ (cutsOf S p).length ∧ (cutsOf S p).length ≤ 1 + 2 * S.length := by
  constructor
  · have h0 : 0 ∈ cutsOf S p := mem_cuts.2 ⟨by omega, by simp [isCut]⟩
    exact List.length_pos_of_mem h0
  · have h1 : (cutsOf S p).Nodup := (cuts_sorted S p).imp (fun h => Nat.ne_of_lt h)
    have := nodup_len (m := 0 :: S.flatMap fun r => [r.num.toNat, (r.num + 1).toNat]) h1 (fun x hx => by
      have h2 := (mem_cuts.1 hx).2
      simp only [isCut, Bool.or_eq_true, beq_iff_eq, List.any_eq_true, Bool.and_eq_true] at h2
      rcases h2 with rfl | ⟨r, hr, _, h3 | h3⟩
      · simp
      · exact List.mem_cons_of_mem _ (List.mem_flatMap.2 ⟨r, hr, by simp; omega⟩)
      · exact List.mem_cons_of_mem _ (List.mem_flatMap.2 ⟨r, hr, by simp; omega⟩))
    have h4 : (S.flatMap fun r => [r.num.toNat, (r.num + 1).toNat]).length = 2 * S.length := by
      clear h1 this
      induction S with
      | nil => rfl
      | cons r S ih => rw [List.flatMap_cons, List.length_append, ih]; simp; omega
    rw [List.length_cons, h4] at this
    omega
theorem ways_bound (S : List Ru) (hS : S.length ≤ 12) : ∀ k, k ≤ 12 → 1 ≤ waysTo S k ∧ waysTo S k ≤ 25 ^ k
  | 0, _ => by simp [waysTo]
  | k + 1, hk => by
    obtain ⟨h1, h2⟩ := ways_bound S hS k (by omega)
    obtain ⟨h3, h4⟩ := cuts_len S k
    have h5 : ((cutsOf S k).length : Int) ≤ 25 := by omega
    have h6 : (1 : Int) ≤ ((cutsOf S k).length : Int) := by omega
    have h7 : waysTo S k * ((cutsOf S k).length : Int) ≤ 25 ^ k * 25 := Int.mul_le_mul h2 h5 (by omega) (by omega)
    have h8 : 1 * 1 ≤ waysTo S k * ((cutsOf S k).length : Int) := Int.mul_le_mul h1 h6 (by omega) (by omega)
    have h9 : (25 : Int) ^ (k + 1) = 25 ^ k * 25 := Int.pow_succ ..
    have h10 : (25 : Int) ^ k * 25 ≤ 25 ^ 12 := by
      rw [← h9]
      have : (25 : Nat) ^ (k + 1) ≤ 25 ^ 12 := Nat.pow_le_pow_right (by omega) (by omega)
      exact_mod_cast this
    have h11 : wrap64 (waysTo S k * ((cutsOf S k).length : Int)) = waysTo S k * ((cutsOf S k).length : Int) := by
      unfold wrap64
      generalize waysTo S k * ((cutsOf S k).length : Int) = z at *
      generalize (25 : Int) ^ k * 25 = y at h7 h10
      rw [show (25 : Int) ^ 12 = 59604644775390625 from by decide] at h10
      omega
    unfold waysTo
    rw [h11, h9]
    omega
end Go.Proofs.YtlofelnfcdbedaaGreat.S
namespace Go.Proofs.YtlofelnfcdbedaaGreat.S
open Go.RowKit Go.BigFrame Go.Sort
set_option linter.unusedVariables false
set_option linter.unusedSimpArgs false
theorem c_iSameFind_v {xs ys : List Ru} {a : ByteArray} {b : Bool} (hr : fndV 1 ⟨#[]⟩ (sameR xs ys) = .tuple #[.string a, .bool b]) (A B : Option Addr) (ca cb : Nat) (w : World) (ha : RuSl w (.slice A xs.length ca) xs) (hb : RuSl w (.slice B ys.length cb) ys) (hna : xs.length ≤ 10) (hnb : ys.length ≤ 10) :
    Calls Tryz.prog 6 #[.slice A xs.length ca, .slice B ys.length cb] w fun e w' => e = .returned (.tuple #[.string a, .bool b]) ∧ Below w.heap.size w w' :=
  (c_iSameFind A B xs ys ca cb w ha hb (by omega) (by omega)).mono fun _ _ e => ⟨by rw [e.1, hr], e.2⟩
theorem c_sSameFind_v {xs ys : List Ru} {a : ByteArray} {b : Bool} (hr : fndV 1 ⟨#[]⟩ (sameR xs ys) = .tuple #[.string a, .bool b]) (A B : Option Addr) (ca cb : Nat) (w : World) (ha : RuSl w (.slice A xs.length ca) xs) (hb : RuSl w (.slice B ys.length cb) ys) (hna : xs.length ≤ 10) (hnb : ys.length ≤ 10) :
    Calls Tryz.prog 7 #[.slice A xs.length ca, .slice B ys.length cb] w fun e w' => e = .returned (.tuple #[.string a, .bool b]) ∧ Below w.heap.size w w' :=
  (c_sSameFind A B xs ys ca cb w ha.at_ hb.at_ (by omega) (by omega)).mono fun _ _ e => ⟨by rw [e.1, hr], e.2⟩
theorem c_RulesOf_v {rs : List Ru} {s : ByteArray} {v k : Int} (hr : ofR rs s = (v, k)) (A : Option Addr) (c : Nat) (w : World) (h : RuSl w (.slice A rs.length c) rs) (hn : rs.length ≤ 10) :
    Calls Tryz.prog 9 #[.slice A rs.length c, .string s] w fun e w' => e = .returned (.tuple #[.int .i64 v, .int .i64 k]) ∧ Below w.heap.size w w' :=
  (c_RulesOf A rs c s w h.at_ (by omega)).mono fun _ _ e => ⟨by rw [e.1, hr]; rfl, e.2⟩
theorem c_SamePieces_v {xs ys : List Ru} {z : Int} (hr : piecesR xs ys = z) (A B : Option Addr) (ca cb : Nat) (w : World) (ha : RuSl w (.slice A xs.length ca) xs) (hb : RuSl w (.slice B ys.length cb) ys) (hna : xs.length ≤ 10) (hnb : ys.length ≤ 10) :
    Calls Tryz.prog 10 #[.slice A xs.length ca, .slice B ys.length cb] w fun e w' => e = .returned (.int .i64 z) ∧ Below w.heap.size w w' :=
  (c_SamePieces A B xs ys ca cb w ha hb (by omega) (by omega)).mono fun _ _ e => ⟨by rw [e.1, hr], e.2⟩
theorem c_DrawSame' (A : Option Addr) (n c : Nat) (w : World) (hb : Bytes w.heap.size A n w) (hc : n ≤ c) (hn : n ≤ 1048576) : Calls Tryz.prog 5 #[.slice A n c] w fun e w' => ∃ (A1 B1 : Option Addr) (ca cb : Nat) (xs ys : List Ru), e = .returned (.tuple #[.slice A1 xs.length ca, .slice B1 ys.length cb]) ∧ RuSl w' (.slice A1 xs.length ca) xs ∧ RuSl w' (.slice B1 ys.length cb) ys ∧ xs.length ≤ 10 ∧ ys.length ≤ 10 ∧ Below w.heap.size w w' :=
  (c_DrawSameFind A n c w.heap.size w (Nat.le_refl _) hb hc (by omega)).mono fun e w' h => by
    obtain ⟨v1, v2, xs, ys, rfl, h1, h2, h3, h4, h5⟩ := h
    obtain ⟨A1, ca, rfl, _⟩ := id h1
    obtain ⟨B1, cb, rfl, _⟩ := id h2
    exact ⟨A1, B1, ca, cb, xs, ys, rfl, h1, h2, h3, h4, h5⟩
theorem c_DrawRules' (A : Option Addr) (n c : Nat) (w : World) (hb : Bytes w.heap.size A n w) (hc : n ≤ c) (hn : n ≤ 1048576) : Calls Tryz.prog 8 #[.slice A n c] w fun e w' => ∃ (v : Value) (s : ByteArray), e = .returned (.tuple #[v, .string s]) ∧ s.size = 12 ∧ Below w.heap.size w w' :=
  c_DrawRulesOf A n c w.heap.size w (Nat.le_refl _) hb hc (by omega)
theorem Bytes.bl {A : Option Addr} {n : Nat} {w w' : World} (h : Bytes w.heap.size A n w) (hb : Below w.heap.size w w') : Bytes w'.heap.size A n w' := fun hn => by
  obtain ⟨ad, e, ha, hc⟩ := h hn
  exact ⟨ad, e, Nat.lt_of_lt_of_le ha hb.size, fun i hi => by
    obtain ⟨x, h0, h1, hx⟩ := hc i hi
    exact ⟨x, h0, h1, (World.cell?_of_block (hb.block _ (by rw [add_block]; exact ha))).trans hx⟩⟩
theorem bytes_of {A : Option Addr} {n cap : Nat} {w : World} {zs : List Int} (h : (A = none ∧ n = 0 ∧ cap = 0 ∧ zs = []) ∨ ∃ x, A = some x ∧ n ≤ cap ∧ cap ≤ maxLen ∧ zs.length = cap ∧ (∀ i, i < zs.length → w.cell? (x.add i) = some (.int .u8 (zs.getD i 0))) ∧ ∀ n ∈ zs, (Lit.int .u8 n).wf = true) : Bytes w.heap.size A n w ∧ n ≤ cap := by
  rcases h with ⟨_, rfl, rfl, _⟩ | ⟨x, rfl, h1, _, h2, h3, h4⟩
  · exact ⟨fun h => absurd h (by omega), Nat.le_refl _⟩
  · refine ⟨fun hn => ⟨x, rfl, ?_, fun i hi => ?_⟩, h1⟩
    · obtain ⟨o, ho, _⟩ := cells_of_cell (h3 0 (by omega))
      have := (Array.getElem?_eq_some_iff.1 ho).1
      rwa [add_block] at this
    · have hlt : i < zs.length := by omega
      have hm : zs.getD i 0 ∈ zs := by
        rw [List.getD_eq_getElem?_getD, List.getElem?_eq_getElem hlt]
        exact List.getElem_mem hlt
      have hw := h4 _ hm
      have : 0 ≤ zs.getD i 0 ∧ zs.getD i 0 ≤ 255 := by simpa [Lit.wf, IntKind.min, IntKind.max, IntKind.signed, IntKind.bits] using hw
      exact ⟨_, this.1, this.2, h3 i hlt⟩
/-- What was found, and what it tells. -/
theorem found_some {xs ys : List Ru} {t : List UInt8} (h : sameR xs ys = some t) : lookB xs ys = true ∧ t.length = 12 ∧ verd xs t ≠ verd ys t := by
  unfold sameR at h
  split at h
  · obtain ⟨h1, h2⟩ := findF_sound xs ys 12 [] t h
    exact ⟨by assumption, by simpa using h2, h1⟩
  · cases h
theorem ofR_look {xs ys : List Ru} (h : lookB xs ys = true) (c : ByteArray) (hc : c.size = 12) : ofR xs c = verd xs c.data.toList ∧ ofR ys c = verd ys c.data.toList := by
  obtain ⟨h1, h2, _⟩ := lookB_parts h
  simp [ofR, h1, h2, hc]
theorem first_law {xs ys : List Ru} {t : List UInt8} (h : sameR xs ys = some t) (c : ByteArray) (hc : c.size = 12) (hne : ofR xs c ≠ ofR ys c) : noLater t c.data.toList := by
  obtain ⟨hl, _, _⟩ := found_some h
  obtain ⟨e1, e2⟩ := ofR_look hl c hc
  rw [e1, e2] at hne
  obtain ⟨h1, h2, _⟩ := lookB_parts hl
  obtain ⟨s, h3, h4⟩ := find_law xs ys (okB_all h1) (okB_all h2) c.data.toList (by simpa using hc) hne
  unfold sameR at h
  rw [if_pos hl, h3] at h
  cases h
  exact h4
theorem none_law {xs ys : List Ru} (h : sameR xs ys = none) (hl : lookB xs ys = true) (c : ByteArray) (hc : c.size = 12) : ofR xs c = ofR ys c := by
  obtain ⟨e1, e2⟩ := ofR_look hl c hc
  rw [e1, e2]
  obtain ⟨h1, h2, _⟩ := lookB_parts hl
  by_cases hne : verd xs c.data.toList = verd ys c.data.toList
  · exact hne
  · obtain ⟨s, h3, h4⟩ := find_law xs ys (okB_all h1) (okB_all h2) c.data.toList (by simpa using hc) hne
    unfold sameR at h
    rw [if_pos hl, h3] at h
    cases h
/-- How many pieces: none are counted, or too many, where nothing is looked at. -/
theorem pieces_look (xs ys : List Ru) : ((piecesR xs ys < 0 ∨ 400 < piecesR xs ys) ∧ lookB xs ys = false) ∨ (0 ≤ piecesR xs ys ∧ piecesR xs ys ≤ 400 ∧ lookB xs ys = true) := by
  unfold piecesR lookB
  by_cases h1 : (okB xs && okB ys) = true
  · rw [if_pos h1, h1]
    simp only [Bool.and_eq_true] at h1
    have hx : xs.length ≤ 6 := by have := h1.1; simp [okB] at this; exact this.2
    have hy : ys.length ≤ 6 := by have := h1.2; simp [okB] at this; exact this.2
    have := (ways_bound (xs ++ ys) (by simp; omega) 12 (by omega)).1
    by_cases h4 : waysTo (xs ++ ys) 12 ≤ 400
    · right
      simp [h4]
      omega
    · left
      simp [h4]
      omega
  · rw [if_neg h1]
    left
    have h1 : (okB xs && okB ys) = false := by simpa using h1
    rw [h1]
    simp
end Go.Proofs.YtlofelnfcdbedaaGreat.S
