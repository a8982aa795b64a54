/- A range over a function of which the rounds look for bytes: the law. The iterator may store into what it has laid itself. The iterator over all pieces: the closure that calls itself: the last byte. The iterator over all pieces: the closure that calls itself: whole. The iterator over all pieces. What two lists tell apart: by the iterator. What the program finds that two lists tell apart; how many pieces there are. -/
import Derived.RangeFuncNested
import Derived.RangeFuncBound
import Derived.RangeFuncCalls
import Derived.RangeFuncLeaves
import Derived.Shelf.Abstract
import Derived.WalkKit
import Derived.OwnWalkIn
import Derived.TacticsInMore
import Derived.LoopNIn
import Derived.LoopIn
import Derived.Test.YtlofelnfcdbedaaGreatK29
import Derived.Laws.EntriesVeiled
namespace Go.Proofs.YtlofelnfcdbedaaGreat.S
open Go.RowKit Go.BigFrame Go.Sort
set_option linter.unusedVariables false
set_option linter.unusedSimpArgs false

theorem wide_anyN {n m : Nat} {P : Program} {f : FuncId} {args : Array Value} {w : World} {R : Ending → World → Prop} (h : CallsIn Fence.wide n P f args w R) : CallsIn Fence.wide m P f args w R := callsIn_wide.2 (callsIn_wide.1 h)
theorem wide_room (k : Nat) : Fence.wide.room k := fun d h => by cases h
theorem round_anyN {n m : Nat} {P : Program} {l : Nat} {f : FuncId} {tmps : Array Value} {assign body : Code} {w : World} {R : Ending → World → Prop} (h : RoundIn Fence.wide n P l f tmps assign body w R) : RoundIn Fence.wide m P l f tmps assign body w R := ⟨h.1, fun c cs _ => h.2 c cs (wide_room _)⟩

/-- A world's word abides what is done from B on. -/
def FromB (B : Nat) (J : World → Prop) : Prop := ∀ X Y, J X → Below B X Y → J Y
/-- The rounds of a loop that looks for bytes. -/
def Rounds (P : Program) (l : Nat) (J : World → Prop) (Jx : List UInt8 → World → Prop) (bad : List UInt8 → Bool) : Prop :=
  ∀ (s : List UInt8) (W : World) (n : Nat), s.length = 12 → J W → YieldAt Fence.wide n P l #[.string (bs s)] W fun e W' =>
    (e = .returned (.bool true) ∧ bad s = false ∧ J W' ∧ W.grownBy W' (some l)) ∨ (e = .returned (.bool false) ∧ bad s = true ∧ Jx s W')
/-- An iterator that hands bytes to its rounds till they stop it. -/
def Seeks (P : Program) (f : FuncId) (args : Array Value) (l : Nat) (J : World → Prop) (Jx : List UInt8 → World → Prop) (fd : Option (List UInt8)) (W : World) (K : World → Prop) : Prop :=
  ∀ n, CallsIn Fence.wide n P f args W fun e W' => (e = .returned (.bool true) ∧ fd = none ∧ J W' ∧ K W') ∨ (e = .returned (.bool false) ∧ ∃ t, fd = some t ∧ Jx t W')
/-- How a round is left. -/
def roundEnd (bad : List UInt8 → Bool) (Ix : List UInt8 → World → Prop) (s : List UInt8) (W : World) : Exit → Act → World → Prop
  | .normal, _, W' => W.grownBy W' none ∧ bad s = false
  | .ret, _, W' => KeepsOthers W W' ∧ bad s = true ∧ Ix s W'
  | .exit _, _, _ => False
  | .goto _, _, _ => False
  | .panic _, _, _ => False
  | .outgrown, _, _ => False
theorem below_put {B : Nat} {W : World} {l : Nat} {o : Obj} (hB : B ≤ l) : Below B W (W.putObj l o) := ⟨rfl, rfl, rfl, by simp, fun k hk => World.putObj_heap_other (by omega)⟩
theorem rangeFunc_seeks {P : Program} {g : Operand} {ps : Array Tmp} {assign body : Code} {Q : Exit → Act → World → Prop} {a : Act} {w : World} {n m : Nat}
    {gf : Nat} {lb : Array Value} (hg : a.eval g = .func (.func gf) #[] lb) (eg : ∀ args w, (callFunc gf args).run P w = .ok (.enter gf args) w) (hps : ps.size = 1)
    {bad : List UInt8 → Bool} {fd : Option (List UInt8)}
    (hseq : ∀ (l : Nat) (J : World → Prop) (Jx : List UInt8 → World → Prop) (W : World), Below w.heap.size w W → w.heap.size ≤ l → l < W.heap.size → FromB W.heap.size J → (∀ t, FromB W.heap.size (Jx t)) → Rounds P l J Jx bad → J W →
      CallsIn Fence.wide n P gf (#[.func (.yield l) #[] #[]] ++ lb) W fun e W' => (∃ v, e = .returned v) ∧ ((fd = none ∧ J W') ∨ (∃ t, fd = some t ∧ Jx t W')))
    (Ix : List UInt8 → World → Prop) (hIx : ∀ t, FromB w.heap.size (Ix t)) (a₁ : List UInt8 → Act)
    (hassign : ∀ (l : Nat) (s : List UInt8) (W : World) (K : Act → World → Prop), K (a₁ s) W →
      assign.wpIn (Fence.wide.inRound l) m P (Exit.then K (fun _ _ _ => False)) { tmps := (ps.zip #[.string (bs s)]).foldl (fun t (p, v) => t.setIfInBounds p v) a.tmps, defers := [] } W)
    (hbody : ∀ (l : Nat) (s : List UInt8) (W : World), s.length = 12 → Below w.heap.size w W → body.wpIn (Fence.wide.inRound l) m P (roundEnd bad Ix s W) (a₁ s) W)
    (hdone : ∀ (D : Nat) (W : World), w.heap.size ≤ D → fd = none → Below w.heap.size w W → W.heap[D]? = some (.deferred (some [])) → Q .normal { a with defers := { target := .collected D, args := #[] } :: a.defers } W)
    (hstop : ∀ (D : Nat) (t : List UInt8) (W : World), w.heap.size ≤ D → fd = some t → Ix t W → W.heap[D]? = some (.deferred (some [])) → Code.ret.wpIn Fence.wide n P Q { a with defers := { target := .collected D, args := #[] } :: a.defers } W) :
    (Code.rangeFunc g ps assign body).wpIn Fence.wide n P Q a w := by
  refine wpIn_rangeFunc ?_
  intro fn hfn
  have hro : Fence.wide.round = none := rfl
  rw [hro]
  obtain ⟨rec, hrec⟩ : ∃ rec : LoopState → Option Code → Loop, rec = fun st pe => { state := st, pending := pe, fn, tmps := a.tmps, params := ps, assign, body, defers := w.heap.size } := ⟨_, rfl⟩
  obtain ⟨W1, hW1⟩ : ∃ W1, (w.alloc (.deferred (some []))).alloc (.loop (rec .ready none)) = W1 := ⟨_, rfl⟩
  have hL1 : W1.heap[w.heap.size + 1]? = some (.loop (rec .ready none)) := by
    rw [← hW1]; have := World.alloc_heap_new (w.alloc (.deferred (some []))) (.loop (rec .ready none)); rwa [World.size_alloc] at this
  have hK1 : W1.heap[w.heap.size]? = some (.deferred (some [])) := by
    rw [← hW1]; exact (Below.heap_alloc _ _ _ (by simp)).trans (World.alloc_heap_new w _)
  have hs1 : W1.heap.size = w.heap.size + 2 := by rw [← hW1]; simp
  have hb1 : Below w.heap.size w W1 := by
    rw [← hW1]; exact ((Below.refl _ w).alloc (Nat.le_refl _) _).alloc (by simp) _
  refine ⟨w.heap.size + 1, [{ target := .collected w.heap.size, args := #[] }], W1, { target := .fn (.func gf) lb, args := #[.func (.yield (w.heap.size + 1)) #[] #[]] }, W1, gf,
    #[.func (.yield (w.heap.size + 1)) #[] #[]] ++ lb, W1, ?_, ?_, ?_, ?_, (fun h => by cases h), ?_⟩
  · rw [← hW1, hrec]; exact run_enterLoop_outer _ _ _ _ _
  · simp only [resolve, hg]
    simp [go_sem]
  · intro f' hf'; trivial
  · simp [invoke, go_sem, eg]
  · refine (wide_anyN (hseq (w.heap.size + 1)
      (fun W => Below w.heap.size w W ∧ W.heap[w.heap.size + 1]? = some (.loop (rec .ready none)) ∧ W.heap[w.heap.size]? = some (.deferred (some [])))
      (fun t W => Ix t W ∧ W.heap[w.heap.size + 1]? = some (.loop (rec .done (some .ret))) ∧ W.heap[w.heap.size]? = some (.deferred (some [])))
      W1 hb1 (Nat.le_succ _) (by omega)
      (fun X Y hs hB => ⟨hs.1.trans (hB.mono (by omega)), (hB.block _ (by omega)).trans hs.2.1, (hB.block _ (by omega)).trans hs.2.2⟩)
      (fun t X Y hs hB => ⟨hIx t X Y hs.1 (hB.mono (by omega)), (hB.block _ (by omega)).trans hs.2.1, (hB.block _ (by omega)).trans hs.2.2⟩)
      ?_ ⟨hb1, hL1, hK1⟩)).mono ?_
    · -- one round
      rintro s W k hlen ⟨hi, hl, hk⟩
      have hlt : w.heap.size + 1 < W.heap.size := (Array.getElem?_eq_some_iff.1 hl).1
      have hy := run_yield (P := P) (args := #[.string (bs s)]) hl (by rw [hrec]; exact hps.symm)
      rw [hrec] at hy
      refine ⟨fn, _, assign, body, hy, round_anyN (n := m) (roundIn_of_wpIn hfn (hassign _ s W _ ⟨_, run_beginRound hl (by rw [hrec]), ?_⟩))⟩
      have hl2 : (W.putObj (w.heap.size + 1) (.loop { rec .ready none with state := .busy })).heap[w.heap.size + 1]? = some (.loop { rec .ready none with state := .busy }) := World.putObj_heap_same hlt
      have hk2 : (W.putObj (w.heap.size + 1) (.loop { rec .ready none with state := .busy })).heap[w.heap.size]? = some (.deferred (some [])) := (World.putObj_heap_other (by omega)).trans hk
      have hi2 : Below w.heap.size w (W.putObj (w.heap.size + 1) (.loop { rec .ready none with state := .busy })) := hi.trans (below_put (by omega))
      have hg2 := grownBy_putObj' W (w.heap.size + 1) (.loop { rec .ready none with state := .busy })
      refine wpIn_mono (hbody _ s _ hlen hi2) ?_
      generalize hW2 : W.putObj (w.heap.size + 1) (.loop { rec .ready none with state := .busy }) = W2 at hl2 hk2 hi2 hg2
      rintro e a3 W3 hp
      cases e with
      | normal =>
        obtain ⟨hG, hbad⟩ := hp
        have hlt2 := (Array.getElem?_eq_some_iff.1 hl2).1
        have hl3 := (hG.block _ hlt2 (by simp)).trans hl2
        have hk3 := (hG.block _ (by omega) (by simp)).trans hk2
        have hr := run_endRound (P := P) none hl3
        rw [hrec] at hr
        refine ⟨_, _, hr, .inl ⟨rfl, hbad, ⟨(hi2.grown hG hi2.size (fun k e => by cases e)).trans (below_put (by omega)), ?_, ?_⟩, ?_⟩⟩
        · rw [hrec]; exact World.putObj_heap_same (Array.getElem?_eq_some_iff.1 hl3).1
        · exact (World.putObj_heap_other (by omega)).trans hk3
        · have hg3 := grownBy_putObj' W3 (w.heap.size + 1) (.loop (rec .ready none))
          rw [hrec] at hg3
          exact ⟨hg3.os.trans (hG.os.trans hg2.os), hg3.tape.trans (hG.tape.trans hg2.tape), hg3.output.trans (hG.output.trans hg2.output), Nat.le_trans hg2.size (Nat.le_trans hG.size hg3.size), fun k hk hne => (hg3.block k (by have := hg2.size; have := hG.size; omega) hne).trans ((hG.block k (by have := hg2.size; omega) (by simp)).trans (hg2.block k hk hne))⟩
      | ret =>
        obtain ⟨hK, hbad, hx⟩ := hp
        have hl3 := hK.same _ _ hl2 rfl
        have hk3 := hK.same _ _ hk2 rfl
        have hr := run_endRound (P := P) (some .ret) hl3
        rw [hrec] at hr
        refine ⟨_, _, hr, .inr ⟨rfl, hbad, hIx _ _ _ hx (below_put (by omega)), ?_, ?_⟩⟩
        · rw [hrec]; exact World.putObj_heap_same (Array.getElem?_eq_some_iff.1 hl3).1
        · exact (World.putObj_heap_other (by omega)).trans hk3
      | exit id => exact hp.elim
      | goto t => exact hp.elim
      | panic ch => exact hp.elim
      | outgrown => exact hp.elim
    · -- behind the iterator
      rintro e W2 ⟨⟨v, rfl⟩, (⟨hf, hi, hl, hk⟩ | ⟨t, hf, hx, hl, hk⟩)⟩
      · exact ⟨none, _, by have := run_endLoop (P := P) hl (by rw [hrec]; simp); rw [hrec] at this; exact this, hdone w.heap.size _ (Nat.le_refl _) hf (hi.trans (below_put (by omega))) ((World.putObj_heap_other (by omega)).trans hk)⟩
      · exact ⟨some .ret, _, by have := run_endLoop (P := P) hl (by rw [hrec]; simp); rw [hrec] at this; exact this, hstop w.heap.size t _ (Nat.le_refl _) hf (hIx _ _ _ hx (below_put (by omega))) ((World.putObj_heap_other (by omega)).trans hk)⟩
end Go.Proofs.YtlofelnfcdbedaaGreat.S
namespace Go.Proofs.YtlofelnfcdbedaaGreat.S
open Go.RowKit Go.BigFrame Go.Sort
set_option linter.unusedVariables false
set_option linter.unusedSimpArgs false

/-- All but two blocks lie as they lay. -/
structure Kept (l C : Nat) (W W' : World) : Prop where
  os : W'.os = W.os
  tape : W'.tape = W.tape
  output : W'.output = W.output
  size : W.heap.size ≤ W'.heap.size
  block : ∀ k, k < W.heap.size → k ≠ l → k ≠ C → W'.heap[k]? = W.heap[k]?
theorem Kept.refl (l C : Nat) (W : World) : Kept l C W W := ⟨rfl, rfl, rfl, Nat.le_refl _, fun _ _ _ _ => rfl⟩
theorem Kept.trans {l C : Nat} {X Y Z : World} (h : Kept l C X Y) (k : Kept l C Y Z) : Kept l C X Z :=
  ⟨k.os.trans h.os, k.tape.trans h.tape, k.output.trans h.output, Nat.le_trans h.size k.size, fun i hi h1 h2 => (k.block i (Nat.lt_of_lt_of_le hi h.size) h1 h2).trans (h.block i hi h1 h2)⟩
theorem Kept.grown {l C : Nat} {X Y : World} (h : X.grownBy Y (some l)) : Kept l C X Y := ⟨h.os, h.tape, h.output, h.size, fun i hi h1 _ => h.block i hi (by simpa using h1)⟩
theorem Kept.below {l C : Nat} {X Y : World} (h : Below X.heap.size X Y) : Kept l C X Y := ⟨h.os, h.tape, h.output, h.size, fun i hi _ _ => h.block i hi⟩
theorem Kept.set_ (l C i : Nat) (u : Value) (W : World) : Kept l C W (W.setCell ⟨C, i, none⟩ u) :=
  ⟨rfl, rfl, rfl, by simp, fun k _ _ h2 => Below.heap_setCell W _ u k h2⟩
theorem Blk.kp {l C : Nat} {W W' : World} {g : Nat} {t : TypeId} {cs : Array Value} (h : Blk W g t cs) (hk : Kept l C W W') (h1 : g ≠ l) (h2 : g ≠ C) : Blk W' g t cs := (hk.block g h.lt h1 h2).trans h

/-- Bytes as cells. -/
def byV (l : List UInt8) : Array Value := (l.map fun x => Value.int .u8 (x.toNat : Int)).toArray
theorem byV_get (l : List UInt8) (i : Nat) : (byV l)[i]? = (l[i]?).map fun x => Value.int .u8 (x.toNat : Int) := by simp [byV]
theorem byV_set (l : List UInt8) (i : Nat) (x : UInt8) : (byV l).setIfInBounds i (.int .u8 (x.toNat : Int)) = byV (l.set i x) := by
  simp [byV, List.map_set]
/-- What the closure of the pieces finds. -/
structure Ev (w : World) (l C yb cb ab bb fb : Nat) (A B : Option Addr) (ca cb' : Nat) (xs ys : List Ru) (W : World) : Prop where
  y : Blk W yb 77 #[.func (.yield l) #[] #[]]
  c : Blk W cb 22 #[.slice (some ⟨C, 0, none⟩) 12 12]
  f : Blk W fb 78 #[.func (.func 45) #[] #[.pointer (some ⟨yb, 0, none⟩), .pointer (some ⟨cb, 0, none⟩), .pointer (some ⟨ab, 0, none⟩), .pointer (some ⟨bb, 0, none⟩), .pointer (some ⟨fb, 0, none⟩)]]
  a : Blk w ab 23 #[.slice A xs.length ca]
  b : Blk w bb 23 #[.slice B ys.length cb']
  lo : Below w.heap.size w W
  two : TwoS w A ca B cb' xs ys
  hl : w.heap.size ≤ l
  hC : w.heap.size ≤ C
  ny : yb ≠ l ∧ yb ≠ C
  nc : cb ≠ l ∧ cb ≠ C
  nf : fb ≠ l ∧ fb ≠ C
  ne : l < C
theorem Ev.kp {w : World} {l C yb cb ab bb fb : Nat} {A B : Option Addr} {ca cb' : Nat} {xs ys : List Ru} {W W' : World} (h : Ev w l C yb cb ab bb fb A B ca cb' xs ys W) (hk : Kept l C W W') : Ev w l C yb cb ab bb fb A B ca cb' xs ys W' :=
  ⟨h.y.kp hk h.ny.1 h.ny.2, h.c.kp hk h.nc.1 h.nc.2, h.f.kp hk h.nf.1 h.nf.2, h.a, h.b, ⟨hk.os.trans h.lo.os, hk.tape.trans h.lo.tape, hk.output.trans h.lo.output, Nat.le_trans h.lo.size hk.size, fun k hlt => (hk.block k (Nat.lt_of_lt_of_le hlt h.lo.size) (by have := h.hl; omega) (by have := h.hC; omega)).trans (h.lo.block k hlt)⟩, h.two, h.hl, h.hC, h.ny, h.nc, h.nf, h.ne⟩
/-- The bytes in hand: the first of them are set. -/
def Hand (C : Nat) (pre : List UInt8) (W : World) : Prop := ∃ c : List UInt8, c.length = 12 ∧ c.take pre.length = pre ∧ Blk W C 5 (byV c)
theorem Hand.below {C : Nat} {pre : List UInt8} {W W' : World} (h : Hand C pre W) (hb : Below W.heap.size W W') : Hand C pre W' := by
  obtain ⟨c, h1, h2, h3⟩ := h
  exact ⟨c, h1, h2, h3.bl hb⟩
theorem Hand.less {C : Nat} {pre : List UInt8} {x : UInt8} {W : World} (h : Hand C (pre ++ [x]) W) : Hand C pre W := by
  obtain ⟨c, h1, h2, h3⟩ := h
  refine ⟨c, h1, ?_, h3⟩
  have := congrArg (List.take pre.length) h2
  rw [List.take_take] at this
  simpa using this
theorem Hand.put {C : Nat} {pre : List UInt8} {W : World} (h : Hand C pre W) (hp : pre.length < 12) (x : UInt8) : Hand C (pre ++ [x]) (W.setCell ⟨C, pre.length, none⟩ (.int .u8 (x.toNat : Int))) := by
  obtain ⟨c, h1, h2, h3⟩ := h
  refine ⟨c.set pre.length x, by simpa using h1, ?_, by rw [← byV_set]; exact h3.set_ _ _⟩
  rw [List.length_append, List.length_singleton, List.take_set, List.take_add_one, h2, List.getElem?_eq_getElem (by omega)]
  simp
/-- string(came). -/
theorem conv_hand {P : Program} (src dst e : TypeId) (hs : P.underlying src = some (.slice e)) (he : P.underlying e = some (.int .u8)) (hd : P.underlying dst = some .string) (W : World) (C n c : Nat) (l : List UInt8) (hl : l.length = n) (h : Blk W C e (byV l)) :
    (convert src dst (.slice (some ⟨C, 0, none⟩) n c)).run P W = .ok (.string (bs l)) W := by
  have := run_convert_bytes_arg (P := P) W src e hs he C 0 n c (l.map fun x => (x.toNat : Int)) (by simpa using hl) (fun i hi => by
    have := h.cell (0 + i)
    rw [this, Nat.zero_add, byV_get, List.getElem?_eq_getElem (by omega)]
    simp [List.getD, List.getElem?_eq_getElem (show i < l.length by omega)]) dst hd
  rw [this]
  congr 2
  simp [strOfNums, bs, List.map_map, Function.comp_def]
def badB (xs ys : List Ru) (s : List UInt8) : Bool := !decide (verd xs s = verd ys s)
/-- A search that went on or was stopped. -/
abbrev Sought (C l : Nat) (pre : List UInt8) (W : World) (W' : World) : Prop := Kept l C W W' ∧ Hand C pre W'
section
attribute [local go_sem] Oper.semAt_some
set_option maxRecDepth 100000
set_option maxHeartbeats 2000000
theorem c_from0 (w : World) (l C yb cb ab bb fb : Nat) (A B : Option Addr) (ca cb' : Nat) (xs ys : List Ru) (J : World → Prop) (Jx : List UInt8 → World → Prop)
    (hR : Rounds Tryz.prog l J Jx (badB xs ys)) (pre : List UInt8) (W : World) (hp : pre.length = 12) (hE : Ev w l C yb cb ab bb fb A B ca cb' xs ys W) (hH : Hand C pre W) (hj : J W) :
    Seeks Tryz.prog 45 #[.int .i64 12, .pointer (some ⟨yb, 0, none⟩), .pointer (some ⟨cb, 0, none⟩), .pointer (some ⟨ab, 0, none⟩), .pointer (some ⟨bb, 0, none⟩), .pointer (some ⟨fb, 0, none⟩)] l J Jx (findF xs ys 0 pre) W (Sought C l pre W) := by
  intro n
  refine wide_anyN (n := 3) ?_
  have hH0 := hH
  obtain ⟨c, h1, h2, h3⟩ := hH
  obtain rfl : c = pre := by rw [← h2, hp, ← h1, List.take_length]
  have c0 : W.cell? ⟨yb, 0, none⟩ = some (.func (.yield l) #[] #[]) := hE.y.cell 0
  have c1 : W.cell? ⟨cb, 0, none⟩ = some (.slice (some ⟨C, 0, none⟩) 12 12) := hE.c.cell 0
  have hcv := conv_hand (P := Tryz.prog) 22 9 5 Tryz.underlying22 Tryz.underlying5 Tryz.underlying9 W C 12 12 c hp h3
  have hY := fun n => hR c W n hp hj
  obtain ⟨fn, tmps, assign, body, hy, hRd⟩ := hY 2
  clear hY
  refine callsIn_of_wp Tryz.func45 rfl trivial ?_ rfl; simp only [Tryz.ntmps45, List.size_toArray, List.length_cons, List.length_nil, Nat.reduceAdd, Nat.reduceSub, Array.replicate_succ, Array.replicate_zero, List.push_toArray, List.append_toArray, List.nil_append, List.cons_append]
  gi_wp2
  refine hRd.mono ?_
  rintro e W' (⟨rfl, hb, hj', hG⟩ | ⟨rfl, hb, hx⟩)
  · gi_wp2
    go_ret
    refine .inl ⟨rfl, ?_, hj', Kept.grown hG, c, h1, h2, h3.grown hG (by have := hE.ne; simp; omega)⟩
    simp only [badB, Bool.not_eq_false', decide_eq_true_eq] at hb
    unfold findF
    rw [if_pos hb]
  · gi_wp2
    go_ret
    refine .inr ⟨rfl, c, ?_, hx⟩
    simp only [badB, Bool.not_eq_true', decide_eq_false_iff_not] at hb
    unfold findF
    rw [if_neg hb]
end
end Go.Proofs.YtlofelnfcdbedaaGreat.S
namespace Go.Proofs.YtlofelnfcdbedaaGreat.S
open Go.RowKit Go.BigFrame Go.Sort
set_option linter.unusedVariables false
set_option linter.unusedSimpArgs false

theorem Hand.kp {C l : Nat} {pre : List UInt8} {W W' : World} (h : Hand C pre W) (hb : Below W.heap.size W W') : Hand C pre W' := h.below hb
theorem Hand.lt {C : Nat} {pre : List UInt8} {W : World} (h : Hand C pre W) : C < W.heap.size := by
  obtain ⟨c, _, _, h3⟩ := h
  exact h3.lt
theorem c_cutsAt (w : World) (l C yb cb ab bb fb : Nat) (A B : Option Addr) (ca cb' : Nat) (xs ys : List Ru) (p : Nat) (W : World) (hE : Ev w l C yb cb ab bb fb A B ca cb' xs ys W) (L : List Nat) (hL : cutsOf (xs ++ ys) p = L) (n : Nat) :
    CallsIn Fence.wide n Tryz.prog 39 #[.slice A xs.length ca, .slice B ys.length cb', .int .i64 p] W fun e W' => ∃ (A1 : Option Addr) (c1 : Nat), e = .returned (.slice A1 L.length c1) ∧ (∀ (i n : Nat), L[i]? = some n → ∃ b : Nat, A1 = some ⟨b, 0, none⟩ ∧ W.heap.size ≤ b ∧ W'.cell? ⟨b, i, none⟩ = some (.int .i64 n)) ∧ Below W.heap.size W W' :=
  callsIn_wide.2 ((c_cuts A B xs ys ca cb' p W (hE.two.bl hE.lo).a (hE.two.bl hE.lo).b hE.two.oka hE.two.okb hE.two.na hE.two.nb).mono fun e W' ⟨v, he, hr, hb⟩ => by
    obtain ⟨A1, c1, rfl, h⟩ := Row.shape hr
    rw [hL] at *
    exact ⟨A1, c1, he, h, hb⟩)
theorem cell_kp {l C : Nat} {W W' : World} {a : Addr} {v : Value} (hk : Kept l C W W') (h : W.cell? a = some v) (h1 : a.block ≠ l) (h2 : a.block ≠ C) : W'.cell? a = some v := by
  obtain ⟨o, ho, hc⟩ := cells_of_cell h
  exact (World.cell?_of_block (hk.block _ (Array.getElem?_eq_some_iff.1 ho).1 h1 h2)).trans h
theorem below_setC {C i : Nat} {u : Value} {W : World} : Below C W (W.setCell ⟨C, i, none⟩ u) := ⟨rfl, rfl, rfl, by simp, fun k hk => Below.heap_setCell W _ u k (by simp; omega)⟩
theorem u8_of {n : Nat} (h : n < 256) : ((UInt8.ofNat n).toNat : Int) = n := by
  rw [UInt8.toNat_ofNat']
  omega
section
attribute [local go_sem] Oper.semAt_some
set_option maxRecDepth 100000
set_option maxHeartbeats 4000000
theorem c_from1 (w : World) (l C yb cb ab bb fb : Nat) (A B : Option Addr) (ca cb' : Nat) (xs ys : List Ru) (J : World → Prop) (Jx : List UInt8 → World → Prop)
    (hJ : FromB C J) (k : Nat) (pre : List UInt8)
    (ih : ∀ (x : UInt8) (W : World), Ev w l C yb cb ab bb fb A B ca cb' xs ys W → Hand C (pre ++ [x]) W → J W → Seeks Tryz.prog 45 #[.int .i64 ((pre.length : Int) + 1), .pointer (some ⟨yb, 0, none⟩), .pointer (some ⟨cb, 0, none⟩), .pointer (some ⟨ab, 0, none⟩), .pointer (some ⟨bb, 0, none⟩), .pointer (some ⟨fb, 0, none⟩)] l J Jx (findF xs ys k (pre ++ [x])) W (Sought C l (pre ++ [x]) W))
    (W : World) (hp : pre.length + (k + 1) = 12) (hE : Ev w l C yb cb ab bb fb A B ca cb' xs ys W) (hH : Hand C pre W) (hj : J W) :
    Seeks Tryz.prog 45 #[.int .i64 (pre.length : Int), .pointer (some ⟨yb, 0, none⟩), .pointer (some ⟨cb, 0, none⟩), .pointer (some ⟨ab, 0, none⟩), .pointer (some ⟨bb, 0, none⟩), .pointer (some ⟨fb, 0, none⟩)] l J Jx (findF xs ys (k + 1) pre) W (Sought C l pre W) := by
  intro n
  refine wide_anyN (n := 3) ?_
  obtain ⟨p, hpp⟩ : ∃ p : Nat, pre.length = p := ⟨_, rfl⟩
  obtain ⟨L, hL⟩ : ∃ L, cutsOf (xs ++ ys) p = L := ⟨_, rfl⟩
  have hf : findF xs ys (k + 1) pre = L.findSome? fun n => findF xs ys k (pre ++ [UInt8.ofNat n]) := by rw [← hL, ← hpp]; rfl
  rw [hf]
  clear hf
  obtain ⟨f, hf⟩ : ∃ f : Nat → Option (List UInt8), (fun n => findF xs ys k (pre ++ [UInt8.ofNat n])) = f := ⟨_, rfl⟩
  have hLl : L.length ≤ 256 := by rw [← hL]; exact Nat.le_trans (List.length_filter_le _ _) (by simp)
  have hlt : ∀ n ∈ L, n < 256 := fun n hn => by rw [← hL] at hn; exact (mem_cuts.1 hn).1
  have hcC := fun W' hE' => c_cutsAt w l C yb cb ab bb fb A B ca cb' xs ys p W' hE' L hL
  clear hL
  have ih : ∀ (m : Nat) (W : World), Ev w l C yb cb ab bb fb A B ca cb' xs ys W → Hand C (pre ++ [UInt8.ofNat m]) W → J W → Seeks Tryz.prog 45 #[.int .i64 ((p : Int) + 1), .pointer (some ⟨yb, 0, none⟩), .pointer (some ⟨cb, 0, none⟩), .pointer (some ⟨ab, 0, none⟩), .pointer (some ⟨bb, 0, none⟩), .pointer (some ⟨fb, 0, none⟩)] l J Jx (f m) W (Sought C l (pre ++ [UInt8.ofNat m]) W) := fun m W h1 h2 h3 => by
    rw [← hf, ← hpp]
    exact ih _ W h1 h2 h3
  rw [hf]
  clear hf
  rw [hpp]
  have hp11 : p ≤ 11 := by omega
  have hne : ((p : Int) == 12) = false := by simp; omega
  have c1 : W.cell? ⟨ab, 0, none⟩ = some (.slice A xs.length ca) := (hE.a.belowB hE.lo hE.a.lt).cell 0
  have c2 : W.cell? ⟨bb, 0, none⟩ = some (.slice B ys.length cb') := (hE.b.belowB hE.lo hE.b.lt).cell 0
  refine callsIn_of_wp Tryz.func45 rfl trivial ?_ rfl; simp only [Tryz.ntmps45, List.size_toArray, List.length_cons, List.length_nil, Nat.reduceAdd, Nat.reduceSub, Array.replicate_succ, Array.replicate_zero, List.push_toArray, List.append_toArray, List.nil_append, List.cons_append]
  gi_wp2_with (refine ⟨trivial, ?_⟩; gi_at_call 39; refine (hcC W hE _).mono ?_; rintro e W1 ⟨A1, c1', rfl, hO, hb1⟩)
  have hlC := hE.ne
  have hCW := hH.lt
  have hK1 := Kept.below (l := l) (C := C) hb1
  have hE1 := hE.kp hK1
  have hH1 := hH.kp hb1 (l := l)
  have hj1 := hJ _ _ hj (hb1.mono (by omega))
  clear c1 c2 hcC hE hH hj
  gi_loopw [21] (fun i V => ∃ j : Nat, i = .int .i64 j ∧ j ≤ L.length ∧ (L.take j).findSome? f = none ∧ Kept l C W1 V ∧ Hand C pre V ∧ J V) (fun i _ => L.length - (intOf i).toNat)
  case atStart => exact ⟨0, rfl, by omega, rfl, Kept.refl _ _ _, hH1, hj1⟩
  case round =>
    obtain ⟨j, rfl, hjl, hf0, hK, hH, hj⟩ := hrel
    have hE := hE1.kp hK
    by_cases hj2 : j < L.length
    · have hd : decide (j < L.length) = true := decide_eq_true hj2
      obtain ⟨m, hm⟩ : ∃ m, L[j]? = some m := ⟨L[j], List.getElem?_eq_getElem hj2⟩
      have hm256 := hlt m (List.mem_of_getElem? hm)
      obtain ⟨b, rfl, hbW, hc⟩ := hO j m hm
      have c5 := cell_kp hK hc (by simp; omega) (by simp; omega)
      have c3 : wr.cell? ⟨cb, 0, none⟩ = some (.slice (some ⟨C, 0, none⟩) 12 12) := hE.c.cell 0
      have hfs := findSome_at hf0 hm
      have hHx := hH
      obtain ⟨cs, hcl, _, hcB⟩ := hHx
      have hcC : wr.cell? ⟨C, p, none⟩ = some (.int .u8 ((cs[p]'(by omega)).toNat : Int)) := by
        rw [hcB.cell p, byV_get, List.getElem?_eq_getElem (by omega)]
        rfl
      have hfz := hcB.frozen p
      have hHp := hH.put (by omega) (UInt8.ofNat m)
      rw [u8_of hm256, hpp] at hHp
      have hKp := Kept.set_ l C p (.int .u8 (m : Int)) wr
      have hEp := hE.kp hKp
      have hjp := hJ _ _ hj (below_setC (C := C) (i := p) (u := .int .u8 (m : Int)))
      have c6 : (wr.setCell ⟨C, p, none⟩ (.int .u8 (m : Int))).cell? ⟨fb, 0, none⟩ = some _ := hEp.f.cell 0
      have hS := ih m _ hEp hHp hjp
      gi_wp2
      refine ⟨trivial, ?_⟩
      refine (hS _).mono ?_
      rintro e V (⟨rfl, hfm, hj3, hK3, hH3⟩ | ⟨rfl, t, hft, hx⟩)
      · gi_wp2
        go_roundw
        case rel => exact ⟨j + 1, by go_num, by omega, by rw [hfs, hfm], (hK.trans hKp).trans hK3, hH3.less, hj3⟩
        case measure => simp [intOf]; omega
      · have hall : L.findSome? f = some t := findSome_take (by rw [hfs, hft])
        gi_wp2
        go_ret
        exact .inr ⟨rfl, t, hall, hx⟩
    · have hd : decide (j < L.length) = false := decide_eq_false hj2
      have ej : L.take j = L := List.take_of_length_le (by omega)
      rw [ej] at hf0
      gi_wp2
      go_ret
      exact .inl ⟨rfl, hf0, hj, hK1.trans hK, hH⟩
end
theorem c_from (w : World) (l C yb cb ab bb fb : Nat) (A B : Option Addr) (ca cb' : Nat) (xs ys : List Ru) (J : World → Prop) (Jx : List UInt8 → World → Prop)
    (hJ : FromB C J) (hR : Rounds Tryz.prog l J Jx (badB xs ys)) : ∀ (k : Nat) (pre : List UInt8) (W : World), pre.length + k = 12 → Ev w l C yb cb ab bb fb A B ca cb' xs ys W → Hand C pre W → J W →
    Seeks Tryz.prog 45 #[.int .i64 (pre.length : Int), .pointer (some ⟨yb, 0, none⟩), .pointer (some ⟨cb, 0, none⟩), .pointer (some ⟨ab, 0, none⟩), .pointer (some ⟨bb, 0, none⟩), .pointer (some ⟨fb, 0, none⟩)] l J Jx (findF xs ys k pre) W (Sought C l pre W)
  | 0, pre, W, hp, hE, hH, hj => by
    rw [show pre.length = 12 by omega]
    exact c_from0 w l C yb cb ab bb fb A B ca cb' xs ys J Jx hR pre W (by omega) hE hH hj
  | k + 1, pre, W, hp, hE, hH, hj =>
    c_from1 w l C yb cb ab bb fb A B ca cb' xs ys J Jx hJ k pre (fun x W' h1 h2 h3 => by
      have := c_from w l C yb cb ab bb fb A B ca cb' xs ys J Jx hJ hR k (pre ++ [x]) W' (by simp; omega) h1 h2 h3
      rwa [List.length_append, List.length_singleton, Int.natCast_add] at this) W hp hE hH hj
end Go.Proofs.YtlofelnfcdbedaaGreat.S
namespace Go.Proofs.YtlofelnfcdbedaaGreat.S
open Go.RowKit Go.BigFrame Go.Sort
set_option linter.unusedVariables false
set_option linter.unusedSimpArgs false
theorem info_u8 : (Tryz.prog.info? 5).map (fun i => (i.zero, i.size, i.bytes)) = some (some (.int .u8 0), 1, 1) := by kernel_rfl
theorem made12 : madeCells (Value.cells (.int .u8 0)) (12 * 1) = byV (List.replicate 12 0) := by kernel_rfl
theorem mk12 (w : World) : (Instr.makeSlice 22 (.int .i64 12) (.int .i64 12)).run Tryz.prog w = .ok (.slice (some ⟨w.heap.size, 0, none⟩) 12 12) (w.alloc (.cells (byV (List.replicate 12 0)) 5)) := by
  obtain ⟨i, hi, hz, h2, h3⟩ := info_parts info_u8
  have := run_make (P := Tryz.prog) w 22 5 i (.int .u8 0) Tryz.underlying22 hi hz .i64 .i64 12 12 (by decide) (by decide) (by rw [h3]; decide) (by decide)
  rw [h2] at this
  rw [← made12]
  exact this
section
attribute [local go_sem] Oper.semAt_some
set_option maxRecDepth 100000
set_option maxHeartbeats 4000000
theorem c_pushes (w : World) (ab bb : Nat) (A B : Option Addr) (ca cb' : Nat) (xs ys : List Ru) (hT : TwoS w A ca B cb' xs ys) (ha : Blk w ab 23 #[.slice A xs.length ca]) (hb : Blk w bb 23 #[.slice B ys.length cb'])
    (n l : Nat) (J : World → Prop) (Jx : List UInt8 → World → Prop) (W : World) (hB : Below w.heap.size w W) (hwl : w.heap.size ≤ l) (hlW : l < W.heap.size) (hJ : FromB W.heap.size J) (hR : Rounds Tryz.prog l J Jx (badB xs ys)) (hj : J W) :
    CallsIn Fence.wide n Tryz.prog 44 #[.func (.yield l) #[] #[], .pointer (some ⟨ab, 0, none⟩), .pointer (some ⟨bb, 0, none⟩)] W fun e W' => (∃ v, e = .returned v) ∧ ((findF xs ys 12 [] = none ∧ J W') ∨ (∃ t, findF xs ys 12 [] = some t ∧ Jx t W')) := by
  refine wide_anyN (n := 3) ?_
  obtain ⟨Z, hZ⟩ : ∃ Z, byV (List.replicate 12 0) = Z := ⟨_, rfl⟩
  have hmk := fun w => mk12 w
  rw [hZ] at hmk
  have hY := Blk.new W 77 #[.func (.yield l) #[] #[]]
  refine callsIn_of_wp Tryz.func44 rfl trivial ?_ rfl; simp only [Tryz.ntmps44, List.size_toArray, List.length_cons, List.length_nil, Nat.reduceAdd, Nat.reduceSub, Array.replicate_succ, Array.replicate_zero, List.push_toArray, List.append_toArray, List.nil_append, List.cons_append]
  obtain ⟨V, hV⟩ : ∃ V, ((W.alloc (.cells #[.func (.yield l) #[] #[]] 77)).alloc (.cells Z 5)).alloc (.cells #[.slice (some ⟨W.heap.size + 1, 0, none⟩) 12 12] 22) = V := ⟨_, rfl⟩
  have hVs : V.heap.size = W.heap.size + 1 + 1 + 1 := by rw [← hV]; simp
  have hy : Blk V W.heap.size 77 #[.func (.yield l) #[] #[]] := by rw [← hV]; exact (hY.alloc _).alloc _
  have hz : Blk V (W.heap.size + 1) 5 Z := by rw [← hV]; exact (Blk.new' (by simp) _ _).alloc _
  have hc : Blk V (W.heap.size + 1 + 1) 22 #[.slice (some ⟨W.heap.size + 1, 0, none⟩) 12 12] := by rw [← hV]; exact Blk.new' (by simp) _ _
  have hBV : Below W.heap.size W V := by rw [← hV]; exact below_alloc (below_alloc (below_new W _) _) _
  obtain ⟨f, hf⟩ : ∃ f, Value.func (.func 45) #[] #[.pointer (some ⟨W.heap.size, 0, none⟩), .pointer (some ⟨W.heap.size + 1 + 1, 0, none⟩), .pointer (some ⟨ab, 0, none⟩), .pointer (some ⟨bb, 0, none⟩), .pointer (some ⟨W.heap.size + 1 + 1 + 1, 0, none⟩)] = f := ⟨_, rfl⟩
  have hF1 : Blk (V.alloc (.cells #[f] 78)) (W.heap.size + 1 + 1 + 1) 78 #[f] := Blk.new' hVs.symm _ _
  have e1 : V.alloc (.cells #[f] 78) = ((((W.alloc (.cells #[.func (.yield l) #[] #[]] 77)).alloc (.cells Z 5)).alloc (.cells #[.slice (some ⟨W.heap.size + 1, 0, none⟩) 12 12] 22)).alloc (.cells #[f] 78)) := by rw [hV]
  have k2 : (V.alloc (.cells #[f] 78)).cell? ⟨W.heap.size + 1 + 1 + 1, 0, none⟩ = some f := hF1.cell 0
  rw [e1] at k2
  have hBF : Below W.heap.size W (V.alloc (.cells #[f] 78)) := below_alloc hBV _
  have hS := c_from w l (W.heap.size + 1) W.heap.size (W.heap.size + 1 + 1) ab bb (W.heap.size + 1 + 1 + 1) A B ca cb' xs ys J Jx (fun X Y h1 h2 => hJ X Y h1 (h2.mono (by omega))) hR 12 [] (V.alloc (.cells #[f] 78)) rfl
    ⟨hy.alloc _, hc.alloc _, by rw [hf]; exact hF1, ha, hb, hB.trans (hBF.mono hB.size), hT, hwl, by have := hB.size; omega, by omega, by omega, by omega, by omega⟩
    ⟨List.replicate 12 0, rfl, rfl, by rw [hZ]; exact hz.alloc _⟩
    (hJ _ _ hj hBF)
  rw [e1] at hS
  subst hf
  clear hF1 e1 hV hVs hy hz hc hBV hBF hY hR hJ ha hb hT
  gi_wp2
  refine ⟨trivial, ?_⟩
  refine (hS _).mono ?_
  rintro e W' (⟨rfl, h1, h2, _⟩ | ⟨rfl, h1⟩)
  · gi_wp2
    go_end0
    exact ⟨⟨_, rfl⟩, .inl ⟨h1, h2⟩⟩
  · gi_wp2
    go_end0
    exact ⟨⟨_, rfl⟩, .inr h1⟩
end
theorem c_everyPiece (A B : Option Addr) (n ca m cb : Nat) (w : World) : Calls Tryz.prog 27 #[.slice A n ca, .slice B m cb] w fun e w' => e = .returned (.func (.func 44) #[] #[.pointer (some ⟨w.heap.size, 0, none⟩), .pointer (some ⟨w.heap.size + 1, 0, none⟩)]) ∧ w' = (w.alloc (.cells #[.slice A n ca] 23)).alloc (.cells #[.slice B m cb] 23) := by
  go_enter Tryz.func27, Tryz.ntmps27
  go_wp2
  go_ret
  exact ⟨rfl, rfl⟩
end Go.Proofs.YtlofelnfcdbedaaGreat.S
namespace Go.Proofs.YtlofelnfcdbedaaGreat.S
open Go.RowKit Go.BigFrame Go.Sort
set_option linter.unusedVariables false
set_option linter.unusedSimpArgs false
theorem c_ruled_in {rs : List Ru} {s : List UInt8} {v1 v2 : Int} (hv : verd rs s = (v1, v2)) (A : Option Addr) (c : Nat) (w : World) (h : RuAt w A rs) (hp : PosOk rs) (hs : s.length = 12) (hn : rs.length ≤ 1000) (l n : Nat) :
    CallsIn (Fence.wide.inRound l) n Tryz.prog 23 #[.slice A rs.length c, .string (bs s)] w fun e w' => e = .returned (.tuple #[.int .i64 v1, .int .i64 v2]) ∧ Below w.heap.size w w' :=
  CallsIn.inRound l (callsIn_wide.2 ((c_ruled A rs c (bs s) w h hp (by rw [bs_size]; exact hs) hn).mono fun e w' ⟨h1, h2⟩ => ⟨by
    have e1 : (bs s).data.toList = s := by simp [bs]
    rw [h1, e1, hv]
    rfl, h2⟩))
theorem results_cells {fn : Func} {i j T U : Nat} (h : fn.results = #[.cell i T, .cell j U]) {tmps : Array Value} {P : Program} {w : World} {p q : Addr} {u v : Value} (hi : tmps.getD i undef = .pointer (some p)) (hj : tmps.getD j undef = .pointer (some q))
    (h1 : (loadVar T p).run P w = .ok u w) (h2 : (loadVar U q).run P w = .ok v w) : (results fn tmps).run P w = .ok (.tuple #[u, v]) w := by
  simp only [results, h, Array.mapM_eq_mapM_toList, List.mapM_cons, List.mapM_nil, hi, hj, asAddr]
  simp [Sem.run_bind, h1, h2, Result.andThen]
section
attribute [local go_sem] Oper.semAt_some
set_option maxRecDepth 100000
set_option maxHeartbeats 4000000
theorem c_differ (A B : Option Addr) (ca cb' : Nat) (xs ys : List Ru) (w : World) (hT : TwoS w A ca B cb' xs ys) :
    Calls Tryz.prog 16 #[.slice A xs.length ca, .slice B ys.length cb'] w fun e w' => e = .returned (fndV 1 ⟨#[]⟩ (findF xs ys 12 [])) ∧ Below w.heap.size w w' := by
  refine (callsIn_wide (n := 3)).1 ?_
  refine callsIn_of_wp_marks Tryz.func16 rfl trivial ?_ rfl
  simp only [Tryz.ntmps16, List.size_toArray, List.length_cons, List.length_nil, Nat.reduceAdd, Nat.reduceSub, Array.replicate_succ, Array.replicate_zero, List.push_toArray, List.append_toArray, List.nil_append, List.cons_append]
  gi_wp2_with (refine ⟨trivial, ?_⟩; gi_at_call 27; refine (callsIn_wide.2 (c_everyPiece A B _ _ _ _ _)).mono ?_; rintro e w' ⟨rfl, rfl⟩)
  obtain ⟨w1, hw1⟩ : ∃ w1, ((((((w.alloc (.cells #[.slice A xs.length ca] 23)).alloc (.cells #[.slice B ys.length cb'] 23)).alloc (.cells #[.string ⟨#[]⟩] 9)).alloc (.cells #[.bool false] 4)).alloc (.cells #[.slice A xs.length ca] 23)).alloc (.cells #[.slice B ys.length cb'] 23)) = w1 := ⟨_, rfl⟩
  have hs1 : w1.heap.size = w.heap.size + 1 + 1 + 1 + 1 + 1 + 1 := by rw [← hw1]; simp
  have hb1 : Below w.heap.size w w1 := by rw [← hw1]; exact below_alloc (below_alloc (below_alloc (below_alloc (below_alloc (below_new w _) _) _) _) _) _
  have q0 : Blk w1 w.heap.size 23 #[.slice A xs.length ca] := by rw [← hw1]; exact (((((Blk.new w _ _).alloc _).alloc _).alloc _).alloc _).alloc _
  have q1 : Blk w1 (w.heap.size + 1) 23 #[.slice B ys.length cb'] := by rw [← hw1]; exact ((((Blk.new' (by simp) _ _).alloc _).alloc _).alloc _).alloc _
  have q2 : Blk w1 (w.heap.size + 1 + 1) 9 #[.string ⟨#[]⟩] := by rw [← hw1]; exact (((Blk.new' (by simp) _ _).alloc _).alloc _).alloc _
  have q3 : Blk w1 (w.heap.size + 1 + 1 + 1) 4 #[.bool false] := by rw [← hw1]; exact ((Blk.new' (by simp) _ _).alloc _).alloc _
  have q4 : Blk w1 (w.heap.size + 1 + 1 + 1 + 1) 23 #[.slice A xs.length ca] := by rw [← hw1]; exact (Blk.new' (by simp) _ _).alloc _
  have q5 : Blk w1 (w.heap.size + 1 + 1 + 1 + 1 + 1) 23 #[.slice B ys.length cb'] := by rw [← hw1]; exact Blk.new' (by simp) _ _
  have hT1 := hT.bl hb1
  rw [hw1]
  clear hw1
  refine rangeFunc_seeks (n := 3) (m := 3) (gf := 44) (lb := #[.pointer (some ⟨w.heap.size + 1 + 1 + 1 + 1, 0, none⟩), .pointer (some ⟨w.heap.size + 1 + 1 + 1 + 1 + 1, 0, none⟩)]) rfl (enters_of Tryz.func44 (by kernel_rfl) rfl) rfl (bad := badB xs ys) (fd := findF xs ys 12 [])
    (fun l J Jx W h1 h2 h3 h4 h5 h6 h7 => c_pushes w1 _ _ A B ca cb' xs ys hT1 q4 q5 3 l J Jx W h1 h2 h3 h4 h6 h7)
    (fun t W => Below w.heap.size w W ∧ Blk W (w.heap.size + 1 + 1) 9 #[.string (bs t)] ∧ Blk W (w.heap.size + 1 + 1 + 1) 4 #[.bool true])
    (fun t X Y h1 h2 => ⟨h1.1.trans (h2.mono (by omega)), h1.2.1.belowB h2 (by omega), h1.2.2.belowB h2 (by omega)⟩)
    (fun s => { tmps := #[.slice A xs.length ca, .slice B ys.length cb', .pointer (some ⟨w.heap.size, 0, none⟩), .pointer (some ⟨w.heap.size + 1, 0, none⟩), .pointer (some ⟨w.heap.size + 1 + 1, 0, none⟩), .pointer (some ⟨w.heap.size + 1 + 1 + 1, 0, none⟩), .string (bs s), undef, undef, undef, undef, .slice A xs.length ca, .slice B ys.length cb', .func (.func 44) #[] #[.pointer (some ⟨w.heap.size + 1 + 1 + 1 + 1, 0, none⟩), .pointer (some ⟨w.heap.size + 1 + 1 + 1 + 1 + 1, 0, none⟩)], .string (bs s), undef, undef, undef, undef, undef, undef, undef, undef, undef, undef, undef, undef, undef, undef, undef, undef, undef, undef, undef, undef, undef], defers := [] }) ?assign ?body ?done ?stop
  case assign =>
    intro l s W K hK
    gi_wp2
    exact hK
  case body =>
    intro l s W hs hB
    have c0 : W.cell? ⟨w.heap.size, 0, none⟩ = some (.slice A xs.length ca) := (q0.belowB hB q0.lt).cell 0
    have c1 : W.cell? ⟨w.heap.size + 1, 0, none⟩ = some (.slice B ys.length cb') := (q1.belowB hB q1.lt).cell 0
    have hTW := hT1.bl hB
    have hpa := posOk_of hT.oka
    have hpb := posOk_of hT.okb
    obtain ⟨⟨v1, v2⟩, hv⟩ : ∃ v, verd xs s = v := ⟨_, rfl⟩
    obtain ⟨⟨u1, u2⟩, hu⟩ : ∃ u, verd ys s = u := ⟨_, rfl⟩
    have hR1 := fun n => c_ruled_in hv A ca W hTW.a.at_ hpa hs hT.na l n
    have hbad : badB xs ys s = !(v1 == u1 && v2 == u2) := by
      unfold badB
      rw [hv, hu]
      by_cases h1 : v1 = u1
      · by_cases h2 : v2 = u2
        · simp [h1, h2]
        · simp [h1, h2]
      · simp [h1]
    clear hv
    gi_wp2
    refine ⟨trivial, ?_⟩
    refine (hR1 _).mono ?_
    rintro e W2 ⟨rfl, hb2⟩
    have hTW2 := hTW.bl hb2
    have hB2 := hB.trans (hb2.mono hB.size)
    have c1 : W2.cell? ⟨w.heap.size + 1, 0, none⟩ = some (.slice B ys.length cb') := (q1.belowB hB2 q1.lt).cell 0
    have hR2 := fun n => c_ruled_in hu B cb' W2 hTW2.b.at_ hpb hs hT.nb l n
    clear hu hR1
    gi_wp2
    refine ⟨trivial, ?_⟩
    refine (hR2 _).mono ?_
    rintro e W3 ⟨rfl, hb3⟩
    have hB3 := hB2.trans (hb3.mono hB2.size)
    have p2 := q2.belowB hB3 q2.lt
    have p3 := q3.belowB hB3 q3.lt
    have p4 := p2.set_ 0 (.string (bs s))
    have p5 := p3.far (p := ⟨w.heap.size + 1 + 1, 0, none⟩) (by simp) (.string (bs s))
    have p6 := p5.set_ 0 (.bool true)
    have p7 := p4.far (p := ⟨w.heap.size + 1 + 1 + 1, 0, none⟩) (by simp) (.bool true)
    have r2 := p2.cell 0
    have r2f := p2.frozen 0
    have r3 := p5.cell 0
    have r3f := p5.frozen 0
    have hG : W.grownBy W3 none := gr_of_below (hb2.trans (hb3.mono hb2.size)) none
    have hb13 : Below w.heap.size w W3 := hb1.trans (hB3.mono (by omega))
    clear hR2
    by_cases e1 : v1 = u1
    · by_cases e2 : v2 = u2
      · subst e1 e2
        simp only [beq_self_eq_true, Bool.and_self, Bool.not_true] at hbad
        gi_wp2
        exact ⟨hG, hbad⟩
      · have e3 : (v2 == u2) = false := by simpa using e2
        subst e1
        simp only [beq_self_eq_true, e3, Bool.and_false, Bool.not_false] at hbad
        gi_wp2
        exact ⟨((KeepsOthers.of_grownBy hG (fun j o e => by cases e)).trans (KeepsOthers.setCell _ _ _)).trans (KeepsOthers.setCell _ _ _), hbad, (hb13.trans (below_setC.mono (by omega))).trans (below_setC.mono (by omega)), p7, p6⟩
    · have e3 : (v1 == u1) = false := by simpa using e1
      simp only [e3, Bool.false_and, Bool.not_false] at hbad
      gi_wp2
      exact ⟨((KeepsOthers.of_grownBy hG (fun j o e => by cases e)).trans (KeepsOthers.setCell _ _ _)).trans (KeepsOthers.setCell _ _ _), hbad, (hb13.trans (below_setC.mono (by omega))).trans (below_setC.mono (by omega)), p7, p6⟩
  case done =>
    intro D W hD hfd hB hK
    have p2 := q2.belowB hB q2.lt
    have p3 := (q3.belowB hB q3.lt).far (p := ⟨w.heap.size + 1 + 1, 0, none⟩) (by simp) (.string ⟨#[]⟩)
    have p4 := p2.set_ 0 (.string ⟨#[]⟩)
    have r2 := p2.cell 0
    have r2f := p2.frozen 0
    have r3 := p3.cell 0
    have r3f := p3.frozen 0
    gi_wp2
    refine ⟨by simp, .inl ⟨_, _, rfl, run_takeDeferred (((KeepsOthers.setCell _ _ _).trans (KeepsOthers.setCell _ _ _)).same D _ hK rfl), ?_⟩⟩
    have p5 := p4.far (p := ⟨w.heap.size + 1 + 1 + 1, 0, none⟩) (by simp) (.bool false)
    have p6 := p3.set_ 0 (.bool false)
    generalize hV : (W.setCell ⟨w.heap.size + 1 + 1, 0, none⟩ (.string ⟨#[]⟩)).setCell ⟨w.heap.size + 1 + 1 + 1, 0, none⟩ (.bool false) = V at p5 p6
    have hBV : Below w.heap.size w V := by
      rw [← hV]
      exact ((hb1.trans (hB.mono (by omega))).trans (below_setC.mono (by omega))).trans (below_setC.mono (by omega))
    have hBD : Below w.heap.size w (V.putObj D (.deferred none)) := hBV.trans (below_put (by omega))
    have hBD2 : Below w1.heap.size V (V.putObj D (.deferred none)) := below_put hD
    have r2 : (V.putObj D (.deferred none)).cell? ⟨w.heap.size + 1 + 1, 0, none⟩ = _ := (p5.belowB hBD2 (by omega)).cell 0
    have r3 : (V.putObj D (.deferred none)).cell? ⟨w.heap.size + 1 + 1 + 1, 0, none⟩ = _ := (p6.belowB hBD2 (by omega)).cell 0
    have l2 : (loadVar 9 ⟨w.heap.size + 1 + 1, 0, none⟩).run Tryz.prog (V.putObj D (.deferred none)) = .ok (.string ⟨#[]⟩) (V.putObj D (.deferred none)) := by go_simp
    have l3 : (loadVar 4 ⟨w.heap.size + 1 + 1 + 1, 0, none⟩).run Tryz.prog (V.putObj D (.deferred none)) = .ok (.bool false) (V.putObj D (.deferred none)) := by go_simp
    exact ⟨_, results_cells rfl rfl rfl l2 l3, by rw [hfd]; rfl, hBD⟩
  case stop =>
    rintro D t W hD hfd ⟨hB, h2, h3⟩ hK
    have r2 := h2.cell 0
    have r3 := h3.cell 0
    gi_wp2
    refine ⟨by simp, .inl ⟨_, _, rfl, run_takeDeferred hK, ?_⟩⟩
    have hBD : Below w.heap.size w (W.putObj D (.deferred none)) := hB.trans (below_put (by omega))
    have hBD2 : Below w1.heap.size W (W.putObj D (.deferred none)) := below_put hD
    have r2 : (W.putObj D (.deferred none)).cell? ⟨w.heap.size + 1 + 1, 0, none⟩ = _ := (h2.belowB hBD2 (by omega)).cell 0
    have r3 : (W.putObj D (.deferred none)).cell? ⟨w.heap.size + 1 + 1 + 1, 0, none⟩ = _ := (h3.belowB hBD2 (by omega)).cell 0
    have l2 : (loadVar 9 ⟨w.heap.size + 1 + 1, 0, none⟩).run Tryz.prog (W.putObj D (.deferred none)) = .ok (.string (bs t)) (W.putObj D (.deferred none)) := by go_simp
    have l3 : (loadVar 4 ⟨w.heap.size + 1 + 1 + 1, 0, none⟩).run Tryz.prog (W.putObj D (.deferred none)) = .ok (.bool true) (W.putObj D (.deferred none)) := by go_simp
    exact ⟨_, results_cells rfl rfl rfl l2 l3, by rw [hfd]; rfl, hBD⟩
end
end Go.Proofs.YtlofelnfcdbedaaGreat.S
namespace Go.Proofs.YtlofelnfcdbedaaGreat.S
open Go.RowKit Go.BigFrame Go.Sort
set_option linter.unusedVariables false
set_option linter.unusedSimpArgs false
theorem c_looked_v {xs ys : List Ru} {x : Bool} (hx : lookB xs ys = x) (A B : Option Addr) (ca cb : Nat) (w : World) (ha : RuSl w (.slice A xs.length ca) xs) (hb : RuSl w (.slice B ys.length cb) ys) (hna : xs.length ≤ 1000) (hnb : ys.length ≤ 1000) : Calls Tryz.prog 15 #[.slice A xs.length ca, .slice B ys.length cb] w fun e w' => e = .returned (.bool x) ∧ Below w.heap.size w w' :=
  (c_looked A B xs ys ca cb w ha hb hna hnb).mono fun _ _ e => ⟨by rw [e.1, hx], e.2⟩
theorem lookB_parts {xs ys : List Ru} (h : lookB xs ys = true) : okB xs = true ∧ okB ys = true ∧ waysTo (xs ++ ys) 12 ≤ 400 := by
  simp only [lookB, Bool.and_eq_true, decide_eq_true_eq] at h
  exact ⟨h.1.1, h.1.2, h.2⟩
theorem c_differ_v {xs ys : List Ru} {a : ByteArray} {b : Bool} (hr : fndV 1 ⟨#[]⟩ (findF xs ys 12 []) = .tuple #[.string a, .bool b]) (A B : Option Addr) (ca cb' : Nat) (w : World) (hT : TwoS w A ca B cb' xs ys) :
    Calls Tryz.prog 16 #[.slice A xs.length ca, .slice B ys.length cb'] w fun e w' => e = .returned (.tuple #[.string a, .bool b]) ∧ Below w.heap.size w w' :=
  (c_differ A B ca cb' xs ys w hT).mono fun _ _ e => ⟨by rw [e.1, hr], e.2⟩
set_option maxRecDepth 100000
set_option maxHeartbeats 2000000
theorem c_iSameFind (A B : Option Addr) (xs ys : List Ru) (ca cb : Nat) (w : World) (ha : RuSl w (.slice A xs.length ca) xs) (hb : RuSl w (.slice B ys.length cb) ys) (hna : xs.length ≤ 1000) (hnb : ys.length ≤ 1000) : Calls Tryz.prog 6 #[.slice A xs.length ca, .slice B ys.length cb] w fun e w' => e = .returned (fndV 1 ⟨#[]⟩ (sameR xs ys)) ∧ Below w.heap.size w w' := by
  have hB := Below.refl w.heap.size w
  rcases Bool.eq_false_or_eq_true (lookB xs ys) with hl | hl
  · have hr : sameR xs ys = findF xs ys 12 [] := by simp [sameR, hl]
    rw [hr]
    clear hr
    obtain ⟨hx, hy, _⟩ := lookB_parts hl
    have hx := okB_all hx
    have hy := okB_all hy
    obtain ⟨a, b, hf⟩ : ∃ (a : ByteArray) (b : Bool), fndV 1 ⟨#[]⟩ (findF xs ys 12 []) = .tuple #[.string a, .bool b] := by
      cases findF xs ys 12 [] with
      | none => exact ⟨_, _, rfl⟩
      | some t => exact ⟨_, _, rfl⟩
    rw [hf]
    go_enter Tryz.func6, Tryz.ntmps6
    go_wp2_with (first | (go_at_call 15; ((with_reducible refine (c_looked_v hl _ _ _ _ _ ha hb hna hnb).mono ?_); rintro e w1 ⟨rfl, hb1⟩; have hB := below_step (w := w) hB hb1; have hT := fun h1 h2 => (TwoS.mk (ha.bl hb1) (hb.bl hb1) h1 h2 hna hnb))) | (go_at_call 16; ((with_reducible refine (c_differ_v hf _ _ _ _ _ (hT hx hy)).mono ?_); rintro e w2 ⟨rfl, hb2⟩; have hB := below_step (w := w) hB hb2)))
    go_ret2
    exact ⟨rfl, hB⟩
  · have hr : sameR xs ys = none := by simp [sameR, hl]
    rw [hr]
    clear hr
    go_enter Tryz.func6, Tryz.ntmps6
    go_wp2_with (first | (go_at_call 15; ((with_reducible refine (c_looked_v hl _ _ _ _ _ ha hb hna hnb).mono ?_); rintro e w1 ⟨rfl, hb1⟩; have hB := below_step (w := w) hB hb1; have hT := fun h1 h2 => (TwoS.mk (ha.bl hb1) (hb.bl hb1) h1 h2 hna hnb))) | (go_at_call 16; ((with_reducible refine (c_differ_v hf _ _ _ _ _ (hT hx hy)).mono ?_); rintro e w2 ⟨rfl, hb2⟩; have hB := below_step (w := w) hB hb2)))
    go_ret2
    exact ⟨rfl, hB⟩
end Go.Proofs.YtlofelnfcdbedaaGreat.S
