/- Rules: what two lists of them say, and of which bytes they say something else: the plain law. -/
import Derived.Test.YtlofelnfcdbedaaGreatK1
namespace Go.Proofs.YtlofelnfcdbedaaGreat.S
open Go.RowKit Go.BigFrame
set_option linter.unusedVariables false
set_option linter.unusedSimpArgs false

/-- A rule. -/
structure Ru where
  pos : Int
  op : Int
  num : Int
  ver : Int
  key : Int
def Ru.cs (x : Ru) : Array Value := #[.int .i64 x.pos, .int .i64 x.op, .int .i64 x.num, .int .i64 x.ver, .int .i64 x.key]
abbrev Ru.v (x : Ru) : Value := .agg #[.int .i64 x.pos, .int .i64 x.op, .int .i64 x.num, .int .i64 x.ver, .int .i64 x.key]
def Ru.ok (x : Ru) : Bool := inB x.pos 0 11 && inB x.op 12 15 && inB x.num 0 255 && inB x.ver 0 2 && inB x.key 0 4294967295 && (x.ver == 2 || x.key == 0)
/-- Whether an op holds of a byte and a number. -/
def hld (op x n : Int) : Bool := if op == 12 then x == n else if op == 13 then x != n else if op == 14 then decide (x < n) else decide (x > n)
/-- The byte at a place. -/
def byt (c : List UInt8) (p : Int) : Int := ((c.getD p.toNat 0).toNat : Int)
/-- The verdict and the key of rules. -/
def verd : List Ru → List UInt8 → Int × Int
  | [], _ => (1, 0)
  | r :: rs, c => if hld r.op (byt c r.pos) r.num then (r.ver, r.key) else verd rs c
/-- Whether a number is a cut of the byte at p. -/
def isCut (rs : List Ru) (p n : Nat) : Bool := n == 0 || rs.any (fun r => r.pos == (p : Int) && (r.num == (n : Int) || r.num + 1 == (n : Int)))
def cutsOf (rs : List Ru) (p : Nat) : List Nat := (List.range 256).filter (isCut rs p)
/-- The first bytes that are told apart, k of them being open. -/
def findF (a b : List Ru) : Nat → List UInt8 → Option (List UInt8)
  | 0, pre => if verd a pre = verd b pre then none else some pre
  | k + 1, pre => (cutsOf (a ++ b) pre.length).findSome? fun n => findF a b k (pre ++ [UInt8.ofNat n])
theorem findF_sound (a b : List Ru) : ∀ (k : Nat) (pre s : List UInt8), findF a b k pre = some s → verd a s ≠ verd b s ∧ s.length = pre.length + k
  | 0, pre, s, h => by
    unfold findF at h
    split at h
    · cases h
    · injection h with h; subst h; exact ⟨by assumption, rfl⟩
  | k + 1, pre, s, h => by
    unfold findF at h
    obtain ⟨n, _, h⟩ := List.exists_of_findSome?_eq_some h
    have := findF_sound a b k _ s h
    simp only [List.length_append, List.length_singleton] at this
    exact ⟨this.1, by omega⟩
theorem findF_pre (a b : List Ru) : ∀ (k : Nat) (pre s : List UInt8), findF a b k pre = some s → pre <+: s
  | 0, pre, s, h => by
    unfold findF at h
    split at h
    · cases h
    · injection h with h; subst h; exact List.prefix_refl _
  | k + 1, pre, s, h => by
    unfold findF at h
    obtain ⟨n, _, h⟩ := List.exists_of_findSome?_eq_some h
    exact (List.prefix_append _ _).trans (findF_pre a b k _ s h)

/-- Lists of bytes of which one is no later. -/
def noLater (s d : List UInt8) : Prop := Go.Op.bytesLess s d = true ∨ s = d
theorem less_of_prefix (pre : List UInt8) (x y : UInt8) (s d : List UInt8) (hs : (pre ++ [x]) <+: s) (hd : (pre ++ [y]) <+: d) (h : x < y) : Go.Op.bytesLess s d = true := by
  obtain ⟨s', rfl⟩ := hs
  obtain ⟨d', rfl⟩ := hd
  induction pre with
  | nil => simp [Go.Op.bytesLess, h]
  | cons z pre ih => simp only [List.cons_append, Go.Op.bytesLess, ih]; simp
/-- Over sorted numbers: what is found is what one finds, or it comes of a number ahead of it. -/
theorem findSome_first {β : Type} (f : Nat → Option β) (n : Nat) (t : β) (hf : f n = some t) : ∀ (l : List Nat), l.Pairwise (· < ·) → n ∈ l → ∃ m s, l.findSome? f = some s ∧ f m = some s ∧ m ∈ l ∧ m ≤ n
  | [], _, h => by cases h
  | x :: l, hp, h => by
    rw [List.pairwise_cons] at hp
    cases hx : f x with
    | some s =>
      refine ⟨x, s, by simp [hx], hx, by simp, ?_⟩
      rcases List.mem_cons.1 h with rfl | h
      · exact Nat.le_refl _
      · exact Nat.le_of_lt (hp.1 n h)
    | none =>
      have h : n ∈ l := by
        rcases List.mem_cons.1 h with rfl | h
        · rw [hf] at hx; cases hx
        · exact h
      obtain ⟨m, s, h1, h2, h3, h4⟩ := findSome_first f n t hf l hp.2 h
      exact ⟨m, s, by simp [hx, h1], h2, by simp [h3], h4⟩
theorem cuts_sorted (rs : List Ru) (p : Nat) : (cutsOf rs p).Pairwise (· < ·) := List.Pairwise.filter _ List.pairwise_lt_range
theorem mem_cuts {rs : List Ru} {p n : Nat} : n ∈ cutsOf rs p ↔ n < 256 ∧ isCut rs p n = true := by simp [cutsOf]
/-- Bytes at cuts that are told apart: what is found is no later. -/
theorem findF_first (a b : List Ru) : ∀ (k : Nat) (pre d : List UInt8), pre <+: d → d.length = pre.length + k → (∀ i, pre.length ≤ i → i < d.length → (d.getD i 0).toNat ∈ cutsOf (a ++ b) i) → verd a d ≠ verd b d → ∃ s, findF a b k pre = some s ∧ noLater s d
  | 0, pre, d, hp, hl, _, hv => by
    obtain rfl : pre = d := hp.eq_of_length (by omega)
    exact ⟨pre, by simp [findF, hv], .inr rfl⟩
  | k + 1, pre, d, hp, hl, hc, hv => by
    have hlt : pre.length < d.length := by omega
    have hp' : (pre ++ [d.getD pre.length 0]) <+: d := by
      obtain ⟨t, rfl⟩ := hp
      cases t with
      | nil => simp at hlt
      | cons x t => exact ⟨t, by simp⟩
    obtain ⟨s, hs, hn⟩ := findF_first a b k (pre ++ [d.getD pre.length 0]) d hp' (by simp; omega) (fun i h1 h2 => hc i (by simp at h1; omega) h2) hv
    obtain ⟨m, s', h1, h2, h3, h4⟩ := findSome_first (fun n => findF a b k (pre ++ [UInt8.ofNat n])) (d.getD pre.length 0).toNat s (by simpa using hs) _ (cuts_sorted (a ++ b) pre.length) (hc _ (Nat.le_refl _) hlt)
    refine ⟨s', h1, ?_⟩
    rcases Nat.lt_or_eq_of_le h4 with h4 | h4
    · refine .inl (less_of_prefix pre (UInt8.ofNat m) (d.getD pre.length 0) s' d (findF_pre a b k _ _ h2) hp' ?_)
      have hm := (mem_cuts.1 h3).1
      rw [UInt8.lt_iff_toNat_lt, UInt8.toNat_ofNat']
      omega
    · subst h4
      have h2 : findF a b k (pre ++ [UInt8.ofNat (d.getD pre.length 0).toNat]) = some s' := h2
      rw [UInt8.ofNat_toNat, hs] at h2
      injection h2 with h2
      subst h2
      exact hn

/-! ### Rounded down -/
/-- The greatest number up to n of which p holds, 0 if there is none. -/
def lastTo (p : Nat → Bool) : Nat → Nat
  | 0 => 0
  | n + 1 => if p (n + 1) then n + 1 else lastTo p n
theorem lastTo_le (p : Nat → Bool) : ∀ n, lastTo p n ≤ n
  | 0 => Nat.le_refl _
  | n + 1 => by
    unfold lastTo
    split
    · exact Nat.le_refl _
    · have := lastTo_le p n; omega
theorem lastTo_of (p : Nat → Bool) (h0 : p 0 = true) : ∀ n, p (lastTo p n) = true
  | 0 => h0
  | n + 1 => by
    unfold lastTo
    split
    · assumption
    · exact lastTo_of p h0 n
theorem lastTo_max (p : Nat → Bool) : ∀ n m, m ≤ n → p m = true → m ≤ lastTo p n
  | 0, m, h, _ => h
  | n + 1, m, h, hp => by
    unfold lastTo
    split
    · exact h
    · rename_i hn
      rcases Nat.lt_or_eq_of_le h with h | h
      · exact lastTo_max p n m (by omega) hp
      · subst h; exact absurd hp hn
/-- Bytes, each rounded down to a cut. -/
def downs (rs : List Ru) (c : List UInt8) : List UInt8 := c.mapIdx fun i x => UInt8.ofNat (lastTo (isCut rs i) x.toNat)
theorem downs_len (rs : List Ru) (c : List UInt8) : (downs rs c).length = c.length := by simp [downs]
theorem downs_at (rs : List Ru) (c : List UInt8) (i : Nat) (h : i < c.length) : ((downs rs c).getD i 0).toNat = lastTo (isCut rs i) (c.getD i 0).toNat := by
  have hx := UInt8.toNat_lt c[i]
  have hle := lastTo_le (isCut rs i) c[i].toNat
  simp only [downs, List.getD_eq_getElem?_getD, List.getElem?_mapIdx, List.getElem?_eq_getElem h, Option.map_some, Option.getD_some, UInt8.toNat_ofNat']
  exact Nat.mod_eq_of_lt (by omega)
theorem hld_down (rs : List Ru) (r : Ru) (hr : r ∈ rs) (hok : r.ok = true) (p x : Nat) (hp : r.pos = (p : Int)) (hx : x < 256) : hld r.op (lastTo (isCut rs p) x : Nat) r.num = hld r.op x r.num := by
  obtain ⟨pos, op, num, ver, key⟩ := r
  simp only [Ru.ok, Bool.and_eq_true, inB_true] at hok
  obtain ⟨⟨⟨⟨⟨_, _⟩, hn⟩, _⟩, _⟩, _⟩ := hok
  simp only at hp hn
  have hc : ∀ m : Nat, (num = (m : Int) ∨ num + 1 = (m : Int)) → isCut rs p m = true := fun m hm => by
    unfold isCut
    rw [Bool.or_eq_true]
    right
    rw [List.any_eq_true]
    refine ⟨_, hr, ?_⟩
    simp only [hp, Bool.and_eq_true, Bool.or_eq_true, beq_iff_eq]
    exact ⟨trivial, hm⟩
  have h1 := lastTo_le (isCut rs p) x
  have h2 := lastTo_max (isCut rs p) x num.toNat
  have h3 := lastTo_max (isCut rs p) x (num.toNat + 1)
  have c1 := hc num.toNat (by omega)
  have c2 := hc (num.toNat + 1) (by omega)
  generalize lastTo (isCut rs p) x = y at *
  have e1 : ((y : Int) == num) = ((x : Int) == num) := by
    rw [Bool.eq_iff_iff, beq_iff_eq, beq_iff_eq]
    constructor
    · intro h
      by_cases hlt : num.toNat + 1 ≤ x
      · have := h3 hlt c2; omega
      · omega
    · intro h
      have := h2 (by omega) c1; omega
  have e2 : decide ((y : Int) < num) = decide ((x : Int) < num) := by
    rw [decide_eq_decide]
    constructor
    · intro h
      by_cases hlt : num.toNat ≤ x
      · have := h2 hlt c1; omega
      · omega
    · intro h; omega
  have e3 : decide ((y : Int) > num) = decide ((x : Int) > num) := by
    rw [decide_eq_decide]
    constructor
    · intro h; omega
    · intro h
      have := h3 (by omega) c2; omega
  simp only [hld, e1, e2, e3, bne]
theorem verd_down (rs : List Ru) (c : List UInt8) (hl : c.length = 12) : ∀ l : List Ru, (∀ r ∈ l, r ∈ rs ∧ r.ok = true) → verd l (downs rs c) = verd l c
  | [], _ => rfl
  | r :: l, h => by
    obtain ⟨hr, hok⟩ := h r (by simp)
    have hp : 0 ≤ r.pos ∧ r.pos ≤ 11 := by
      have := hok
      simp only [Ru.ok, Bool.and_eq_true, inB_true] at this
      exact this.1.1.1.1.1
    unfold verd
    have e : hld r.op (byt (downs rs c) r.pos) r.num = hld r.op (byt c r.pos) r.num := by
      unfold byt
      rw [downs_at rs c _ (by omega)]
      exact hld_down rs r hr hok _ _ (by omega) (UInt8.toNat_lt _)
    rw [e, verd_down rs c hl l (fun r hr => h r (by simp [hr]))]
/-- Byte by byte no later is no later. -/
theorem noLater_of_le : ∀ s d : List UInt8, s.length = d.length → (∀ i, i < d.length → (s.getD i 0).toNat ≤ (d.getD i 0).toNat) → noLater s d
  | [], [], _, _ => .inr rfl
  | [], _ :: _, h, _ => by simp at h
  | _ :: _, [], h, _ => by simp at h
  | x :: s, y :: d, hl, h => by
    have h0 := h 0 (by simp)
    simp only [List.getD_cons_zero] at h0
    have ht := noLater_of_le s d (by simpa using hl) (fun i hi => by have := h (i + 1) (by simp; omega); simpa using this)
    rcases Nat.lt_or_eq_of_le h0 with h0 | h0
    · exact .inl (by simp [Go.Op.bytesLess, UInt8.lt_iff_toNat_lt, h0])
    · have : x = y := UInt8.toNat_inj.1 h0
      subst this
      rcases ht with ht | ht
      · exact .inl (by simp [Go.Op.bytesLess, ht])
      · exact .inr (by rw [ht])
theorem bytesLess_trans : ∀ a b c : List UInt8, Go.Op.bytesLess a b = true → Go.Op.bytesLess b c = true → Go.Op.bytesLess a c = true
  | [], [], _, h, _ => by simp [Go.Op.bytesLess] at h
  | [], _ :: _, [], _, h => by simp [Go.Op.bytesLess] at h
  | [], _ :: _, _ :: _, _, _ => by simp [Go.Op.bytesLess]
  | _ :: _, [], _, h, _ => by simp [Go.Op.bytesLess] at h
  | _ :: _, _ :: _, [], _, h => by simp [Go.Op.bytesLess] at h
  | x :: a, y :: b, z :: c, h1, h2 => by
    simp only [Go.Op.bytesLess, Bool.or_eq_true, decide_eq_true_eq, Bool.and_eq_true, beq_iff_eq] at h1 h2 ⊢
    rcases h1 with h1 | ⟨rfl, h1⟩
    · rcases h2 with h2 | ⟨rfl, h2⟩
      · exact .inl (by rw [UInt8.lt_iff_toNat_lt] at *; omega)
      · exact .inl h1
    · rcases h2 with h2 | ⟨rfl, h2⟩
      · exact .inl h2
      · exact .inr ⟨rfl, bytesLess_trans a b c h1 h2⟩
theorem noLater_trans {a b c : List UInt8} (h1 : noLater a b) (h2 : noLater b c) : noLater a c := by
  rcases h1 with h1 | rfl
  · rcases h2 with h2 | rfl
    · exact .inl (bytesLess_trans _ _ _ h1 h2)
    · exact .inl h1
  · exact h2
/-- Of bytes that are told apart: something is found, and it is no later. -/
theorem find_law (a b : List Ru) (ha : a.all Ru.ok = true) (hb : b.all Ru.ok = true) (c : List UInt8) (hl : c.length = 12) (hv : verd a c ≠ verd b c) : ∃ s, findF a b 12 [] = some s ∧ noLater s c := by
  rw [List.all_eq_true] at ha hb
  have hva := verd_down (a ++ b) c hl a (fun r hr => ⟨by simp [hr], ha r hr⟩)
  have hvb := verd_down (a ++ b) c hl b (fun r hr => ⟨by simp [hr], hb r hr⟩)
  obtain ⟨s, h1, h2⟩ := findF_first a b 12 [] (downs (a ++ b) c) List.nil_prefix (by simp [downs_len, hl]) (fun i _ hi => by
    rw [downs_len] at hi
    rw [downs_at _ _ _ hi, mem_cuts]
    have := lastTo_le (isCut (a ++ b) i) (c.getD i 0).toNat
    have := UInt8.toNat_lt (c.getD i 0)
    exact ⟨by omega, lastTo_of _ (by simp [isCut]) _⟩) (by rw [hva, hvb]; exact hv)
  refine ⟨s, h1, noLater_trans h2 (noLater_of_le _ _ (downs_len _ _) fun i hi => ?_)⟩
  rw [downs_at _ _ _ hi]
  exact lastTo_le _ _
end Go.Proofs.YtlofelnfcdbedaaGreat.S
