/- Ranges: of a rule: its one region that draws, state by state. Ranges: of a rule: the steps of its region that draws. Ranges: of a rule: its region that draws, whole. Ranges: of a rule. Ranges: of a rule: the walk. -/
import Derived.Test.YtlofelnfcdbedaaGreatK21
import Derived.Shelf.Abstract
namespace Go.Proofs.YtlofelnfcdbedaaGreat.S
open Go.RowKit Go.BigFrame Go.Sort
set_option linter.unusedVariables false
set_option linter.unusedSimpArgs false

def regOps : Code → Array Oper
  | .region _ ops _ => ops
  | _ => #[]
noncomputable def l9o : Array Oper := regOps (cd1 (cd2 ((Tryz.f26).body.getD .skip)))
def l9st (c1 c2 b8 b9 : Bool) : Array Bool := #[true, true, true, true, true, c1, true, c2, c2, c2, c2, c2, b8, b9, false, false, false]
def one (b : Bool) : Nat := if b then 0 else 1
def l9f (c1 c2 b8 b9 : Bool) : Nat := 3 + one c1 + 5 * one c2 + one b8 + one b9
/-- What is fixed around the region. -/
structure L9 where
  w : World
  r0 : Value
  g0 : Value
  x : Bool
  r : Nat
  q : Nat
  y : Nat
  o : Int
  n : Int
  a : Int
  b : Int
  c : Int
  d : Int
  e1 : Int
  v1 : Int
  k1 : Int
  v23 : Value
  v24 : Value
/-- What the states differ in. -/
structure L9v where
  v8 : Value
  v9 : Value
  v11 : Value
  v17 : Value
  v19 : Value
  v20 : Value
  v21 : Value
  v22 : Value
def l9a (e : L9) (v : L9v) : Act := { tmps := #[e.r0, e.g0, .bool e.x, .pointer (some ⟨e.r, 0, none⟩), .pointer (some ⟨e.q, 0, none⟩), undef, .pointer (some ⟨e.y, 0, none⟩), .bool false, v.v8, v.v9, undef, v.v11, .pointer (some ⟨e.r, 1, none⟩), .int .i64 e.o, rgV e.a e.b e.c e.d, .pointer (some ⟨e.r, 2, none⟩), .int .i64 e.n, v.v17, .bool e.x, v.v19, v.v20, v.v21, v.v22, e.v23, e.v24], defers := [] }
/-- What holds in each world on the way. -/
structure L9S (e : L9) (V : World) : Prop where
  hr : Blk V e.r 40 #[.int .i64 e.e1, .int .i64 e.o, .int .i64 e.n, .int .i64 e.v1, .int .i64 e.k1]
  hq : Blk V e.q 54 (rgC e.a e.b e.c e.d)
  hy : Blk V e.y 54 (rgC 0 0 0 0)
  hb : Below e.w.heap.size e.w V
theorem L9S.bl {e : L9} {V V' : World} (h : L9S e V) (hb : Below V.heap.size V V') : L9S e V' := ⟨h.hr.bl hb, h.hq.bl hb, h.hy.bl hb, below_step h.hb hb⟩
/-- A block of a new variable. -/
def L9n (e : L9) (V : World) (v : Value) (g : Nat) : Prop := v = .pointer (some ⟨g, 0, none⟩) ∧ Blk V g 54 (rgC 0 0 0 0) ∧ e.w.heap.size ≤ g ∧ g ≠ e.y ∧ g ≠ e.r ∧ g ≠ e.q
structure L9G (e : L9) (c1 c2 b8 b9 : Bool) (V : World) (v : L9v) (g8 g9 : Nat) : Prop where
  s : L9S e V
  h17 : c1 = true → v.v17 = rgV e.n e.n e.n 0
  h20 : c2 = true → ∃ p q r s p' q' r' s' x, v.v20 = rgV p q r s ∧ I32 p ∧ I32 q ∧ I32 r ∧ I32 s ∧ v.v21 = rgV p' q' r' s' ∧ v.v22 = .bool x
  h8 : b8 = true → L9n e V v.v8 g8
  h9 : b9 = true → L9n e V v.v9 g9
  ne : b8 = true → b9 = true → g8 ≠ g9
def L9H (e : L9) (Q : Exit → Act → World → Prop) (c1 c2 b8 b9 : Bool) : Prop := ∀ (V : World) (v : L9v) (g8 g9 : Nat), L9G e c1 c2 b8 b9 V v g8 g9 → wpAnyH Tryz.prog .any l9o Q (L9S e) (l9f c1 c2 b8 b9) (l9st c1 c2 b8 b9) (l9a e v) V
theorem l9ready (c1 c2 b8 b9 : Bool) (hc : c2 = true → c1 = true) (hn : (c2 && b8 && b9) = false) : Region.ready .any l9o (l9st c1 c2 b8 b9) = (if c1 then [] else [5]) ++ (if c1 && !c2 then [7] else []) ++ (if b8 then [] else [12]) ++ (if b9 then [] else [13]) := by
  cases c1 <;> cases c2 <;> cases b8 <;> cases b9 <;> first | (exact absurd (hc rfl) Bool.false_ne_true) | (exact absurd hn (by decide)) | kernel_rfl
theorem l9fuel (c1 c2 b8 b9 : Bool) : ∃ k, l9f c1 c2 b8 b9 = k + 1 := ⟨2 + one c1 + 5 * one c2 + one b8 + one b9, by unfold l9f; omega⟩
theorem l9lit1 (c2 b8 b9 : Bool) : (l9st false c2 b8 b9).setIfInBounds 5 true = l9st true c2 b8 b9 := rfl
theorem l9lit8 (c1 c2 b9 : Bool) : (l9st c1 c2 false b9).setIfInBounds 12 true = l9st c1 c2 true b9 := rfl
theorem l9lit9 (c1 c2 b8 : Bool) : (l9st c1 c2 b8 false).setIfInBounds 13 true = l9st c1 c2 b8 true := rfl
theorem l9op5 : ∃ o, l9o[5]? = some o ∧ o.op = .call { callee := .value (.func 43), args := #[.tmp 16], argTypes := #[3] } ∧ o.guard = none ∧ o.dst = some 17 := ⟨_, rfl, rfl, rfl, rfl⟩
theorem l9op7 : ∃ o, l9o[7]? = some o ∧ o.op = .call { callee := .value (.func 42), args := #[.tmp 13, .tmp 14, .tmp 17, .tmp 18], argTypes := #[3, 54, 54, 4] } ∧ o.guard = none ∧ o.dst = some 19 := ⟨_, rfl, rfl, rfl, rfl⟩
theorem l9op8 : ∃ o, l9o[8]? = some o ∧ o.op = .move (.tmp 19) ∧ o.guard = none ∧ o.dst = some 11 := ⟨_, rfl, rfl, rfl, rfl⟩
theorem l9op9 : ∃ o, l9o[9]? = some o ∧ o.op = .extract (.tmp 11) 0 ∧ o.guard = none ∧ o.dst = some 20 := ⟨_, rfl, rfl, rfl, rfl⟩
theorem l9op10 : ∃ o, l9o[10]? = some o ∧ o.op = .extract (.tmp 11) 1 ∧ o.guard = none ∧ o.dst = some 21 := ⟨_, rfl, rfl, rfl, rfl⟩
theorem l9op11 : ∃ o, l9o[11]? = some o ∧ o.op = .extract (.tmp 11) 2 ∧ o.guard = none ∧ o.dst = some 22 := ⟨_, rfl, rfl, rfl, rfl⟩
theorem l9op12 : ∃ o, l9o[12]? = some o ∧ o.op = .alloc 54 ∧ o.guard = none ∧ o.dst = some 8 := ⟨_, rfl, rfl, rfl, rfl⟩
theorem l9op13 : ∃ o, l9o[13]? = some o ∧ o.op = .alloc 54 ∧ o.guard = none ∧ o.dst = some 9 := ⟨_, rfl, rfl, rfl, rfl⟩
theorem l9op14 : ∃ o, l9o[14]? = some o ∧ o.op = .store 54 (.tmp 8) (.tmp 20) ∧ o.guard = none ∧ o.dst = none := ⟨_, rfl, rfl, rfl, rfl⟩
theorem l9op15 : ∃ o, l9o[15]? = some o ∧ o.op = .store 54 (.tmp 9) (.tmp 21) ∧ o.guard = none ∧ o.dst = none := ⟨_, rfl, rfl, rfl, rfl⟩
theorem l9op16 : ∃ o, l9o[16]? = some o ∧ o.op = .assign (.tmp 22) ∧ o.guard = none ∧ o.dst = some 10 := ⟨_, rfl, rfl, rfl, rfl⟩
end Go.Proofs.YtlofelnfcdbedaaGreat.S
namespace Go.Proofs.YtlofelnfcdbedaaGreat.S
open Go.RowKit Go.BigFrame Go.Sort Go.Shelf
set_option linter.unusedVariables false
set_option linter.unusedSimpArgs false

set_option maxRecDepth 100000
theorem L9n.bl {e : L9} {V V' : World} {v : Value} {g : Nat} (h : L9n e V v g) (hb : Below V.heap.size V V') : L9n e V' v g := ⟨h.1, h.2.1.bl hb, h.2.2.1, h.2.2.2⟩
theorem L9n.new {e : L9} {V : World} (h : L9S e V) : L9n e (V.alloc (.cells (rgC 0 0 0 0) 54)) (.pointer (some ⟨V.heap.size, 0, none⟩)) V.heap.size := ⟨rfl, Blk.new _ _ _, h.hb.size, Nat.ne_of_gt h.hy.lt, Nat.ne_of_gt h.hr.lt, Nat.ne_of_gt h.hq.lt⟩
abbrev l9K (e : L9) (Q : Exit → Act → World → Prop) (k : Nat) (l : Array Bool) : Act → World → Prop := fun a' w' => L9S e w' ∧ wpAnyH Tryz.prog .any l9o Q (L9S e) k l a' w'
theorem l9s8 {e : L9} {Q : Exit → Act → World → Prop} {c1 c2 b9 : Bool} (hH : L9H e Q c1 c2 true b9) {V : World} {v : L9v} {g8 g9 k : Nat} (hG : L9G e c1 c2 false b9 V v g8 g9) (hf : l9f c1 c2 false b9 = k + 1) : wpOp Tryz.prog l9o Q 12 (l9K e Q k ((l9st c1 c2 false b9).setIfInBounds 12 true)) (l9a e v) V := by
  obtain ⟨o, ho, hop, hg, hd⟩ := l9op12
  refine wpOp_run ho hg (run_allocRg _ o hop V) ?_
  have hb := below_new V (.cells (rgC 0 0 0 0) 54)
  have hk : k = l9f c1 c2 true b9 := by simp only [l9f, one] at hf ⊢; simp at hf ⊢; omega
  rw [hd, hk, l9lit8]
  exact ⟨hG.s.bl hb, hH _ { v with v8 := .pointer (some ⟨V.heap.size, 0, none⟩) } V.heap.size g9 ⟨hG.s.bl hb, hG.h17, hG.h20, fun _ => L9n.new hG.s, fun h => (hG.h9 h).bl hb, fun _ h => Nat.ne_of_gt (hG.h9 h).2.1.lt⟩⟩
theorem l9s9 {e : L9} {Q : Exit → Act → World → Prop} {c1 c2 b8 : Bool} (hH : L9H e Q c1 c2 b8 true) {V : World} {v : L9v} {g8 g9 k : Nat} (hG : L9G e c1 c2 b8 false V v g8 g9) (hf : l9f c1 c2 b8 false = k + 1) : wpOp Tryz.prog l9o Q 13 (l9K e Q k ((l9st c1 c2 b8 false).setIfInBounds 13 true)) (l9a e v) V := by
  obtain ⟨o, ho, hop, hg, hd⟩ := l9op13
  refine wpOp_run ho hg (run_allocRg _ o hop V) ?_
  have hb := below_new V (.cells (rgC 0 0 0 0) 54)
  have hk : k = l9f c1 c2 b8 true := by simp only [l9f, one] at hf ⊢; simp at hf ⊢; omega
  rw [hd, hk, l9lit9]
  exact ⟨hG.s.bl hb, hH _ { v with v9 := .pointer (some ⟨V.heap.size, 0, none⟩) } g8 V.heap.size ⟨hG.s.bl hb, hG.h17, hG.h20, fun h => (hG.h8 h).bl hb, fun _ => L9n.new hG.s, fun h _ => Nat.ne_of_lt (hG.h8 h).2.1.lt⟩⟩
theorem l9s5 {e : L9} {Q : Exit → Act → World → Prop} {b8 b9 : Bool} (hH : L9H e Q true false b8 b9) {V : World} {v : L9v} {g8 g9 k : Nat} (hG : L9G e false false b8 b9 V v g8 g9) (hf : l9f false false b8 b9 = k + 1) : wpOp Tryz.prog l9o Q 5 (l9K e Q k ((l9st false false b8 b9).setIfInBounds 5 true)) (l9a e v) V := by
  obtain ⟨o, ho, hop, hg, hd⟩ := l9op5
  refine wpOp_call ho hg hop (enters_of Tryz.func43 (by kernel_rfl) rfl) ?_
  rw [show (#[Operand.tmp 16] : Array Operand).map (l9a e v).eval = #[.int .i64 e.n] from by simp [l9a, Act.eval]]
  have hk : k = l9f true false b8 b9 := by simp only [l9f, one] at hf ⊢; simp at hf ⊢; omega
  refine (c_l2One e.n V).mono ?_
  rintro e' w' ⟨rfl, hb⟩
  refine ⟨_, rfl, ?_⟩
  rw [hd, hk, l9lit1]
  exact ⟨hG.s.bl hb, hH _ { v with v17 := rgV e.n e.n e.n 0 } g8 g9 ⟨hG.s.bl hb, fun _ => rfl, hG.h20, fun h => (hG.h8 h).bl hb, fun h => (hG.h9 h).bl hb, hG.ne⟩⟩
/-- What a rule's fields are known to be. -/
structure L9K (e : L9) : Prop where
  ho : 12 ≤ e.o
  ho' : e.o ≤ 15
  hn : I32 e.n
  ha : I32 e.a
  hb : I32 e.b
  hc : I32 e.c
  hd : I32 e.d
theorem l9s7 {e : L9} (hE : L9K e) {Q : Exit → Act → World → Prop} (hQ : ∀ c (a : Act) d v w, Q (.panic c) (a.put d v) w → Q (.panic c) a w) {b8 b9 : Bool} (hH : L9H e Q true true b8 b9) {V : World} {v : L9v} {g8 g9 k : Nat} (hG : L9G e true false b8 b9 V v g8 g9) (hf : l9f true false b8 b9 = k + 1) : wpOp Tryz.prog l9o Q 7 (l9K e Q k ((l9st true false b8 b9).setIfInBounds 7 true)) (l9a e v) V := by
  obtain ⟨o, ho, hop, hg, hd⟩ := l9op7
  refine wpOp_call ho hg hop (enters_of Tryz.func42 (by kernel_rfl) rfl) ?_
  obtain ⟨v8, v9, v11, v17, v19, v20, v21, v22⟩ := v
  obtain rfl : v17 = _ := hG.h17 rfl
  rw [show (#[Operand.tmp 13, Operand.tmp 14, Operand.tmp 17, Operand.tmp 18] : Array Operand).map (l9a e ⟨v8, v9, v11, rgV e.n e.n e.n 0, v19, v20, v21, v22⟩).eval = #[.int .i64 e.o, rgV e.a e.b e.c e.d, rgV e.n e.n e.n 0, .bool e.x] from by simp [l9a, Act.eval]]
  have hk : k = l9f true true b8 b9 + 1 + 1 + 1 + 1 := by simp only [l9f, one] at hf ⊢; simp at hf ⊢; omega
  refine (c_l2Branch e.o e.x hE.ho hE.ho' _ _ _ _ _ _ _ _ V hE.ha hE.hb hE.hc hE.hd hE.hn hE.hn hE.hn zero_32).mono ?_
  rintro e' w' ⟨t1, t2, x2, rfl, ⟨p, q, r, s, rfl, hp, hq, hr, hs⟩, ⟨p', q', r', s', rfl, _, _, _, _⟩, hb⟩
  refine ⟨_, rfl, ?_⟩
  have hS := hG.s.bl hb
  rw [hd, hk]
  refine ⟨hS, ?_⟩
  obtain ⟨o8, ho8, hop8, hg8, hd8⟩ := l9op8
  obtain ⟨o9, ho9, hop9, hg9, hd9⟩ := l9op9
  obtain ⟨o10, ho10, hop10, hg10, hd10⟩ := l9op10
  obtain ⟨o11, ho11, hop11, hg11, hd11⟩ := l9op11
  have hw : ∀ o : Oper, o.guard = none → ∀ f, Region.wanted o f = true := fun o h f => by simp [Region.wanted, h]
  refine wpAnyH_take (i := 8) (v := .tuple #[rgV p q r s, rgV p' q' r' s', .bool x2]) ho8 (by kernel_rfl) (by cases b8 <;> cases b9 <;> kernel_rfl) (by cases b8 <;> cases b9 <;> kernel_rfl) (fun c a w => hQ c a _ _ w) (.inl ⟨hw _ hg8 _, fun w _ => run_moveV _ hop8 w⟩) hS ?_
  rw [hd8]
  refine wpAnyH_take (i := 9) (v := rgV p q r s) ho9 (by kernel_rfl) (by cases b8 <;> cases b9 <;> kernel_rfl) (by cases b8 <;> cases b9 <;> kernel_rfl) (fun c a w => hQ c a _ _ w) (.inl ⟨hw _ hg9 _, fun w _ => run_extractV (o := o9) _ _ hop9 rfl rfl w⟩) hS ?_
  rw [hd9]
  refine wpAnyH_take (i := 10) (v := rgV p' q' r' s') ho10 (by kernel_rfl) (by cases b8 <;> cases b9 <;> kernel_rfl) (by cases b8 <;> cases b9 <;> kernel_rfl) (fun c a w => hQ c a _ _ w) (.inl ⟨hw _ hg10 _, fun w _ => run_extractV (o := o10) _ _ hop10 rfl rfl w⟩) hS ?_
  rw [hd10]
  refine wpAnyH_take (i := 11) (v := .bool x2) ho11 (by kernel_rfl) (by cases b8 <;> cases b9 <;> kernel_rfl) (by cases b8 <;> cases b9 <;> kernel_rfl) (fun c a w => hQ c a _ _ w) (.inl ⟨hw _ hg11 _, fun w _ => run_extractV (o := o11) _ _ hop11 rfl rfl w⟩) hS ?_
  rw [hd11]
  exact hH _ ⟨v8, v9, .tuple #[rgV p q r s, rgV p' q' r' s', .bool x2], rgV e.n e.n e.n 0, .tuple #[rgV p q r s, rgV p' q' r' s', .bool x2], rgV p q r s, rgV p' q' r' s', .bool x2⟩ g8 g9 ⟨hS, fun _ => rfl, fun _ => ⟨_, _, _, _, _, _, _, _, _, rfl, hp, hq, hr, hs, rfl, rfl⟩, fun h => (hG.h8 h).bl hb, fun h => (hG.h9 h).bl hb, hG.ne⟩
end Go.Proofs.YtlofelnfcdbedaaGreat.S
namespace Go.Proofs.YtlofelnfcdbedaaGreat.S
open Go.RowKit Go.BigFrame Go.Sort
set_option linter.unusedVariables false
set_option linter.unusedSimpArgs false
set_option maxRecDepth 100000

/-- What is asked behind the region. -/
def L9end (e : L9) (Q : Exit → Act → World → Prop) : Prop := ∀ (V : World) (v : L9v) (g8 : Nat) (p q r s : Int) (x : Bool), L9S e V → Blk V g8 54 (rgC p q r s) → I32 p → I32 q → I32 r → I32 s → v.v8 = .pointer (some ⟨g8, 0, none⟩) → g8 ≠ e.y → e.w.heap.size ≤ g8 → Q .normal ((l9a e v).put (some 10) (.bool x)) V
theorem ff5 {W : World} {g k : Nat} {t : TypeId} {cs : Array Value} (h : Blk W g t cs) (hne : g ≠ k) (a b c d : Value) : Blk ((((W.setCell ⟨k, 0, none⟩ a).setCell ⟨k, 1, none⟩ b).setCell ⟨k, 2, none⟩ c).setCell ⟨k, 3, none⟩ d) g t cs := h.farFour hne a b c d
theorem L9S.four {e : L9} {V : World} (h : L9S e V) {g : Nat} (hg : e.w.heap.size ≤ g) (hne : g ≠ e.y ∧ g ≠ e.r ∧ g ≠ e.q) (a b c d : Value) : L9S e ((((V.setCell ⟨g, 0, none⟩ a).setCell ⟨g, 1, none⟩ b).setCell ⟨g, 2, none⟩ c).setCell ⟨g, 3, none⟩ d) := ⟨ff5 h.hr (Ne.symm hne.2.1) _ _ _ _, h.hq.farFour (Ne.symm hne.2.2) _ _ _ _, h.hy.farFour (Ne.symm hne.1) _ _ _ _, below_four h.hb hg _ _ _ _⟩
theorem l9tail {e : L9} {Q : Exit → Act → World → Prop} (hF : L9end e Q) : L9H e Q true true true true := by
  intro V v g8 g9 hG
  obtain ⟨p, q, r, s, p', q', r', s', x, h20, hp, hq, hr, hs, h21, h22⟩ := hG.h20 rfl
  obtain ⟨h8, b8, l8, n8⟩ := hG.h8 rfl
  obtain ⟨h9, b9, l9, n9⟩ := hG.h9 rfl
  have hne := hG.ne rfl rfl
  obtain ⟨o, ho, hop, hg, hd⟩ := l9op14
  obtain ⟨o2, ho2, hop2, hg2, hd2⟩ := l9op15
  obtain ⟨o3, ho3, hop3, hg3, hd3⟩ := l9op16
  have e8 : (l9a e v).eval (.tmp 8) = .pointer (some ⟨g8, 0, none⟩) := h8
  have e9 : (l9a e v).eval (.tmp 9) = .pointer (some ⟨g9, 0, none⟩) := h9
  have e20 : (l9a e v).eval (.tmp 20) = rgV p q r s := h20
  have e21 : (l9a e v).eval (.tmp 21) = rgV p' q' r' s' := h21
  have e22 : (l9a e v).eval (.tmp 22) = .bool x := h22
  have s1 := hG.s.four l8 n8 (.int .i64 p) (.int .i64 q) (.int .i64 r) (.int .i64 s)
  have c8 := b8.four (.int .i64 p) (.int .i64 q) (.int .i64 r) (.int .i64 s)
  have c9 := b9.farFour (Ne.symm hne) (.int .i64 p) (.int .i64 q) (.int .i64 r) (.int .i64 s)
  have s2 := s1.four l9 n9 (.int .i64 p') (.int .i64 q') (.int .i64 r') (.int .i64 s')
  have c8 := c8.farFour hne (.int .i64 p') (.int .i64 q') (.int .i64 r') (.int .i64 s')
  show wpAnyH _ _ _ _ _ 3 _ _ _
  refine wpAnyH_all (rs := [14]) (by kernel_rfl) (by simp) (fun i hi => ?_)
  obtain rfl : i = 14 := by simpa using hi
  refine wpOp_skip ho hg (run_storeRg _ _ hop e8 e20 b8) ?_
  rw [hd]
  refine ⟨s1, wpAnyH_all (rs := [15]) (by kernel_rfl) (by simp) (fun i hi => ?_)⟩
  obtain rfl : i = 15 := by simpa using hi
  refine wpOp_skip ho2 hg2 (run_storeRg _ _ hop2 e9 e21 c9) ?_
  rw [hd2]
  refine ⟨s2, wpAnyH_all (rs := [16]) (by kernel_rfl) (by simp) (fun i hi => ?_)⟩
  obtain rfl : i = 16 := by simpa using hi
  refine wpOp_run ho3 hg3 (BigFrame.run_assign (.tmp 22) hop3 _) ?_
  rw [hd3]
  refine ⟨s2, wpAnyH_done (by kernel_rfl) ?_ _⟩
  show Q .normal ((l9a e v).put (some 10) ((l9a e v).eval (.tmp 22))) _
  rw [e22]
  exact hF _ v g8 p q r s x s2 c8 hp hq hr hs h8 n8.1 l8
theorem l9step {e : L9} (hE : L9K e) {Q : Exit → Act → World → Prop} (hQ : ∀ c (a : Act) d v w, Q (.panic c) (a.put d v) w → Q (.panic c) a w) (c1 c2 b8 b9 : Bool) (hc : c2 = true → c1 = true) (hn : (c2 && b8 && b9) = false)
    (h5 : c1 = false → L9H e Q true false b8 b9) (h7 : c1 = true → c2 = false → L9H e Q true true b8 b9) (h12 : b8 = false → L9H e Q c1 c2 true b9) (h13 : b9 = false → L9H e Q c1 c2 b8 true) : L9H e Q c1 c2 b8 b9 := by
  intro V v g8 g9 hG
  obtain ⟨k, hk⟩ := l9fuel c1 c2 b8 b9
  rw [hk]
  refine wpAnyH_all (l9ready c1 c2 b8 b9 hc hn) ?_ (fun i hi => ?_)
  · cases c1 <;> cases c2 <;> cases b8 <;> cases b9 <;> simp at hc hn ⊢
  · rcases List.mem_append.1 hi with hi | hi
    · rcases List.mem_append.1 hi with hi | hi
      · rcases List.mem_append.1 hi with hi | hi
        · cases c1 with
          | true => simp at hi
          | false =>
            obtain rfl : c2 = false := by cases c2 with | false => rfl | true => exact absurd (hc rfl) Bool.false_ne_true
            obtain rfl : i = 5 := by simpa using hi
            exact l9s5 (h5 rfl) hG hk
        · cases c1 with
          | false => simp at hi
          | true =>
            cases c2 with
            | true => simp at hi
            | false =>
              obtain rfl : i = 7 := by simpa using hi
              exact l9s7 hE hQ (h7 rfl rfl) hG hk
      · cases b8 with
        | true => simp at hi
        | false =>
          obtain rfl : i = 12 := by simpa using hi
          exact l9s8 (h12 rfl) hG hk
    · cases b9 with
      | true => simp at hi
      | false =>
        obtain rfl : i = 13 := by simpa using hi
        exact l9s9 (h13 rfl) hG hk
theorem l9all {e : L9} (hE : L9K e) {Q : Exit → Act → World → Prop} (hQ : ∀ c (a : Act) d v w, Q (.panic c) (a.put d v) w → Q (.panic c) a w) (hF : L9end e Q) : L9H e Q false false false false := by
  have no : ∀ {p : Prop}, true = false → p := fun h => absurd h (by decide)
  have no' : ∀ {p : Prop}, false = true → p := fun h => absurd h (by decide)
  have b4 : ∀ (c1 c2 : Bool), L9H e Q c1 c2 true true → (L9H e Q c1 c2 true true → L9H e Q c1 c2 true false) → (L9H e Q c1 c2 true true → L9H e Q c1 c2 false true) → (L9H e Q c1 c2 true false → L9H e Q c1 c2 false true → L9H e Q c1 c2 false false) → ∀ b8 b9, L9H e Q c1 c2 b8 b9 := fun c1 c2 h11 h10 h01 h00 b8 b9 => by
    cases b8 <;> cases b9
    · exact h00 (h10 h11) (h01 h11)
    · exact h01 h11
    · exact h10 h11
    · exact h11
  have l2 : ∀ b8 b9, L9H e Q true true b8 b9 := b4 true true (l9tail hF)
    (fun h => l9step hE hQ true true true false (fun _ => rfl) rfl no (fun _ => no) no (fun _ => h))
    (fun h => l9step hE hQ true true false true (fun _ => rfl) rfl no (fun _ => no) (fun _ => h) no)
    (fun h h' => l9step hE hQ true true false false (fun _ => rfl) rfl no (fun _ => no) (fun _ => h) (fun _ => h'))
  have l1 : ∀ b8 b9, L9H e Q true false b8 b9 := b4 true false
    (l9step hE hQ true false true true no' rfl no (fun _ _ => l2 true true) no no)
    (fun h => l9step hE hQ true false true false no' rfl no (fun _ _ => l2 true false) no (fun _ => h))
    (fun h => l9step hE hQ true false false true no' rfl no (fun _ _ => l2 false true) (fun _ => h) no)
    (fun h h' => l9step hE hQ true false false false no' rfl no (fun _ _ => l2 false false) (fun _ => h) (fun _ => h'))
  exact b4 false false
    (l9step hE hQ false false true true no' rfl (fun _ => l1 true true) no' no no)
    (fun h => l9step hE hQ false false true false no' rfl (fun _ => l1 true false) no' no (fun _ => h))
    (fun h => l9step hE hQ false false false true no' rfl (fun _ => l1 false true) no' (fun _ => h) no)
    (fun h h' => l9step hE hQ false false false false no' rfl (fun _ => l1 false false) no' (fun _ => h) (fun _ => h')) false false
end Go.Proofs.YtlofelnfcdbedaaGreat.S
namespace Go.Proofs.YtlofelnfcdbedaaGreat.S
open Go.RowKit Go.BigFrame Go.Sort
set_option linter.unusedVariables false
set_option linter.unusedSimpArgs false
set_option maxRecDepth 100000

theorem l9op0 : ∃ o, l9o[0]? = some o ∧ o.op = .fieldAddr 40 (.tmp 3) 1 ∧ o.guard = none ∧ o.dst = some 12 := ⟨_, rfl, rfl, rfl, rfl⟩
theorem l9op1 : ∃ o, l9o[1]? = some o ∧ o.op = .load 3 (.tmp 12) ∧ o.guard = none ∧ o.dst = some 13 := ⟨_, rfl, rfl, rfl, rfl⟩
theorem l9op2 : ∃ o, l9o[2]? = some o ∧ o.op = .load 54 (.tmp 4) ∧ o.guard = none ∧ o.dst = some 14 := ⟨_, rfl, rfl, rfl, rfl⟩
theorem l9op3 : ∃ o, l9o[3]? = some o ∧ o.op = .fieldAddr 40 (.tmp 3) 2 ∧ o.guard = none ∧ o.dst = some 15 := ⟨_, rfl, rfl, rfl, rfl⟩
theorem l9op4 : ∃ o, l9o[4]? = some o ∧ o.op = .load 3 (.tmp 15) ∧ o.guard = none ∧ o.dst = some 16 := ⟨_, rfl, rfl, rfl, rfl⟩
theorem l9op6 : ∃ o, l9o[6]? = some o ∧ o.op = .move (.tmp 2) ∧ o.guard = none ∧ o.dst = some 18 := ⟨_, rfl, rfl, rfl, rfl⟩
theorem run_fieldRu {ρ : Operand → Value} {o : Oper} (p : Operand) (k : Nat) (hk : k = 1 ∨ k = 2) (ho : o.op = .fieldAddr 40 p k) {g : Nat} (hp : ρ p = .pointer (some ⟨g, 0, none⟩)) (W : World) : (execOp ρ o).run Tryz.prog W = .ok (.value (.pointer (some ⟨g, k, none⟩))) W := by
  unfold execOp
  rw [ho]
  rcases hk with rfl | rfl
  · simp only [hp]
    go_simp
  · simp only [hp]
    go_simp
theorem run_loadInt {ρ : Operand → Value} {o : Oper} (p : Operand) (ho : o.op = .load 3 p) {ad : Addr} (hp : ρ p = .pointer (some ad)) {W : World} {v : Value} (h : W.cell? ad = some v) : (execOp ρ o).run Tryz.prog W = .ok (.value v) W := by
  unfold execOp
  rw [ho]
  simp only [hp]
  go_simp
theorem run_loadRg {ρ : Operand → Value} {o : Oper} (p : Operand) (ho : o.op = .load 54 p) {g : Nat} (hp : ρ p = .pointer (some ⟨g, 0, none⟩)) {W : World} {a b c d : Int} (h : Blk W g 54 (rgC a b c d)) : (execOp ρ o).run Tryz.prog W = .ok (.value (rgV a b c d)) W := by
  obtain ⟨h0, h1, h2, h3⟩ := h.cells4
  unfold execOp
  rw [ho]
  simp only [hp]
  go_simp
end Go.Proofs.YtlofelnfcdbedaaGreat.S
namespace Go.Proofs.YtlofelnfcdbedaaGreat.S
open Go.RowKit Go.BigFrame Go.Sort
set_option linter.unusedVariables false
set_option linter.unusedSimpArgs false
set_option maxRecDepth 100000

def l9b (e : L9) : Act := { tmps := #[e.r0, e.g0, .bool e.x, .pointer (some ⟨e.r, 0, none⟩), .pointer (some ⟨e.q, 0, none⟩), undef, .pointer (some ⟨e.y, 0, none⟩), .bool false, undef, undef, undef, undef, undef, undef, undef, undef, undef, undef, undef, undef, undef, undef, undef, e.v23, e.v24], defers := [] }
theorem l9region {e : L9} (hE : L9K e) {Q : Exit → Act → World → Prop} (hQ : ∀ c (a : Act) d v w, Q (.panic c) (a.put d v) w → Q (.panic c) a w) (hF : L9end e Q) (W : World) (hS : L9S e W) : (Code.region 1 l9o true).wp Tryz.prog Q (l9b e) W := by
  obtain ⟨o0, ho0, hop0, hg0, hd0⟩ := l9op0
  obtain ⟨o1, ho1, hop1, hg1, hd1⟩ := l9op1
  obtain ⟨o2, ho2, hop2, hg2, hd2⟩ := l9op2
  obtain ⟨o3, ho3, hop3, hg3, hd3⟩ := l9op3
  obtain ⟨o4, ho4, hop4, hg4, hd4⟩ := l9op4
  obtain ⟨o6, ho6, hop6, hg6, hd6⟩ := l9op6
  have hw : ∀ o : Oper, o.guard = none → ∀ f, Region.wanted o f = true := fun o h f => by simp [Region.wanted, h]
  have hS' : L9S e { W with drawn := W.drawn + 1 } := ⟨hS.hr, hS.hq, hS.hy, below_drew hS.hb⟩
  refine wp_region_held (S := L9S e) (by kernel_rfl) ?_
  show wpAnyH _ _ _ _ _ 17 (Array.replicate 17 false) _ _
  refine wpAnyH_take (i := 0) (v := .pointer (some ⟨e.r, 1, none⟩)) ho0 (by kernel_rfl) (by kernel_rfl) (by kernel_rfl) (fun c a w => hQ c a _ _ w) (.inl ⟨hw _ hg0 _, fun w _ => run_fieldRu _ 1 (.inl rfl) hop0 rfl w⟩) hS' ?_
  rw [hd0]
  refine wpAnyH_take (i := 1) (v := .int .i64 e.o) ho1 (by kernel_rfl) (by kernel_rfl) (by kernel_rfl) (fun c a w => hQ c a _ _ w) (.inl ⟨hw _ hg1 _, fun w h => run_loadInt _ hop1 rfl (h.hr.cell 1)⟩) hS' ?_
  rw [hd1]
  refine wpAnyH_take (i := 2) (v := rgV e.a e.b e.c e.d) ho2 (by kernel_rfl) (by kernel_rfl) (by kernel_rfl) (fun c a w => hQ c a _ _ w) (.inl ⟨hw _ hg2 _, fun w h => run_loadRg _ hop2 rfl h.hq⟩) hS' ?_
  rw [hd2]
  refine wpAnyH_take (i := 3) (v := .pointer (some ⟨e.r, 2, none⟩)) ho3 (by kernel_rfl) (by kernel_rfl) (by kernel_rfl) (fun c a w => hQ c a _ _ w) (.inl ⟨hw _ hg3 _, fun w _ => run_fieldRu _ 2 (.inr rfl) hop3 rfl w⟩) hS' ?_
  rw [hd3]
  refine wpAnyH_take (i := 4) (v := .int .i64 e.n) ho4 (by kernel_rfl) (by kernel_rfl) (by kernel_rfl) (fun c a w => hQ c a _ _ w) (.inl ⟨hw _ hg4 _, fun w h => run_loadInt _ hop4 rfl (h.hr.cell 2)⟩) hS' ?_
  rw [hd4]
  refine wpAnyH_take (i := 6) (v := .bool e.x) ho6 (by kernel_rfl) (by kernel_rfl) (by kernel_rfl) (fun c a w => hQ c a _ _ w) (.inl ⟨hw _ hg6 _, fun w _ => run_moveV _ hop6 w⟩) hS' ?_
  rw [hd6]
  exact l9all hE hQ hF _ ⟨undef, undef, undef, undef, undef, undef, undef, undef⟩ 0 0 ⟨hS', fun h => (by cases h), fun h => (by cases h), fun h => (by cases h), fun h => (by cases h), fun h => (by cases h)⟩
set_option maxHeartbeats 4000000
theorem c_l9Range (o n v k e a b c d : Int) (x : Bool) (w : World) (ho : 12 ≤ o) (ho' : o ≤ 15) (hn : I32 n) (ha : I32 a) (hb : I32 b) (hc : I32 c) (hd : I32 d) : Calls Tryz.prog 26 #[.agg #[.int .i64 e, .int .i64 o, .int .i64 n, .int .i64 v, .int .i64 k], rgV a b c d, .bool x] w (RgB w) := by
  have hR : Blk (((w.alloc (.cells #[.int .i64 e, .int .i64 o, .int .i64 n, .int .i64 v, .int .i64 k] 40)).alloc (.cells (rgC a b c d) 54)).alloc (.cells (rgC 0 0 0 0) 54)) w.heap.size 40 #[.int .i64 e, .int .i64 o, .int .i64 n, .int .i64 v, .int .i64 k] := ((Blk.new w _ _).alloc _).alloc _
  have hA : Blk (((w.alloc (.cells #[.int .i64 e, .int .i64 o, .int .i64 n, .int .i64 v, .int .i64 k] 40)).alloc (.cells (rgC a b c d) 54)).alloc (.cells (rgC 0 0 0 0) 54)) (w.heap.size + 1) 54 (rgC a b c d) := (Blk.new' (by simp) _ _).alloc _
  have hY : Blk (((w.alloc (.cells #[.int .i64 e, .int .i64 o, .int .i64 n, .int .i64 v, .int .i64 k] 40)).alloc (.cells (rgC a b c d) 54)).alloc (.cells (rgC 0 0 0 0) 54)) (w.heap.size + 1 + 1) 54 (rgC 0 0 0 0) := Blk.new' (by simp) _ _
  have hB := below_alloc (below_alloc (below_new w (.cells #[.int .i64 e, .int .i64 o, .int .i64 n, .int .i64 v, .int .i64 k] 40)) (.cells (rgC a b c d) 54)) (.cells (rgC 0 0 0 0) 54)
  have ly : w.heap.size ≤ w.heap.size + 1 + 1 := by omega
  go_enter Tryz.func26, Tryz.ntmps26
  go_upto_region 1 with fail
  generalize ((w.alloc (.cells #[.int .i64 e, .int .i64 o, .int .i64 n, .int .i64 v, .int .i64 k] 40)).alloc (.cells (rgC a b c d) 54)).alloc (.cells (rgC 0 0 0 0) 54) = W at *
  refine l9region (e := ⟨w, .agg #[.int .i64 e, .int .i64 o, .int .i64 n, .int .i64 v, .int .i64 k], rgV a b c d, x, w.heap.size, w.heap.size + 1, w.heap.size + 1 + 1, o, n, a, b, c, d, e, v, k, undef, undef⟩) ⟨ho, ho', hn, ha, hb, hc, hd⟩ (fun _ _ d _ _ h => by cases d <;> exact h) ?_ W ⟨hR, hA, hY, hB⟩
  intro V u g8 p q r s y hS h8 hp hq hr hs e8 hne hge
  obtain ⟨u8, u9, u11, u17, u19, u20, u21, u22⟩ := u
  obtain rfl : u8 = _ := e8
  obtain ⟨x0, x1, x2, x3⟩ := h8.cells4
  obtain ⟨y0, y1, y2, y3⟩ := hS.hy.cells4
  have yf := hS.hy.frozen
  have hyb := hS.hy
  have hBV := hS.hb
  dsimp only [l9a]
  generalize w.heap.size + 1 + 1 = yy at *
  go_wp2_with fail
  ((with_reducible refine end_rgb (i := 6) (j := 7) (hyb.four _ _ _ _) (below_four hBV ly _ _ _ _) (r32_mk hp hq hr hs) ?_ ?_ ?_) <;> (first | rfl | exact ⟨_, rfl⟩))
end Go.Proofs.YtlofelnfcdbedaaGreat.S
