/- Bytes that are told apart: what the reference finds. Bytes that are told apart: what the reference finds: whole. Bytes that are told apart: the reference's answer. -/
import Derived.Test.YtlofelnfcdbedaaGreatK25
import Derived.Test.YtlofelnfcdbedaaGreatK24
namespace Go.Proofs.YtlofelnfcdbedaaGreat.S
open Go.RowKit Go.BigFrame Go.Sort
set_option linter.unusedVariables false
set_option linter.unusedSimpArgs false

/-- What is found, as a value. -/
def fndV (k : Nat) (s : ByteArray) : Option (List UInt8) → Value
  | some t => .tuple #[.string (bs t), .bool true]
  | none => .tuple #[.string (if k = 0 then s else ⟨#[]⟩), .bool false]
theorem bs_toList (s : ByteArray) : bs s.data.toList = s := by
  apply ByteArray.ext
  simp [bs]
set_option maxRecDepth 100000
set_option maxHeartbeats 2000000
theorem c_l9Of_v {rs : List Ru} {s : ByteArray} {v1 v2 : Int} (hv : verd rs s.data.toList = (v1, v2)) (A : Option Addr) (c : Nat) (w : World) (h : RuAt w A rs) (hp : PosOk rs) (hs : s.size = 12) (hn : rs.length ≤ 1000) : Calls Tryz.prog 30 #[.slice A rs.length c, .string s] w fun e w' => e = .returned (.tuple #[.int .i64 v1, .int .i64 v2]) ∧ Below w.heap.size w w' :=
  (c_l9Of A rs c s w h hp hs hn).mono fun _ _ e => ⟨by rw [e.1, hv]; rfl, e.2⟩
theorem c_l14Find0 (A B : Option Addr) (xs ys : List Ru) (ca cb : Nat) (s : ByteArray) (w : World) (hT : Two w A B xs ys) (hs : s.size = 12) : Calls Tryz.prog 19 #[.slice A xs.length ca, .slice B ys.length cb, .string s] w fun e w' => e = .returned (fndV 0 s (findF xs ys 0 s.data.toList)) ∧ Below w.heap.size w w' := by
  have hpa := posOk_of hT.oka
  have hpb := posOk_of hT.okb
  have hB := Below.refl w.heap.size w
  have he : Ending.returned (fndV 0 s (findF xs ys 0 s.data.toList)) = .returned (.tuple #[.string s, .bool (!((verd xs s.data.toList).1 == (verd ys s.data.toList).1) || !((verd xs s.data.toList).2 == (verd ys s.data.toList).2))]) := by
    congr 1
    unfold findF
    by_cases h : verd xs s.data.toList = verd ys s.data.toList
    · rw [if_pos h, h]
      simp [fndV]
    · rw [if_neg h]
      have : ((verd xs s.data.toList).1 == (verd ys s.data.toList).1 && (verd xs s.data.toList).2 == (verd ys s.data.toList).2) = false := by
        rw [Bool.eq_false_iff]
        intro h2
        simp only [Bool.and_eq_true, beq_iff_eq] at h2
        exact h (Prod.ext h2.1 h2.2)
      rw [← Bool.not_and, this]
      simp [fndV, bs_toList]
  rw [he]
  clear he
  generalize hv : verd xs s.data.toList = v at *
  generalize hu : verd ys s.data.toList = u at *
  obtain ⟨v1, v2⟩ := v
  obtain ⟨u1, u2⟩ := u
  dsimp only
  have hv := Lib.hid hv
  have hu := Lib.hid hu
  have hsz : ((s.size : Int) == 12) = true := by simp [hs]
  go_enter Tryz.func19, Tryz.ntmps19; go_wp2_with (first | (go_at_call 30; ((with_reducible refine (c_l9Of_v hv.out _ _ _ hT.a hpa hs hT.na).mono ?_); rintro e w1 ⟨rfl, hb1⟩; have hT := hT.bl hb1; have hB := below_step (w := w) hB hb1)) | (go_at_call 30; ((with_reducible refine (c_l9Of_v hu.out _ _ _ hT.b hpb hs hT.nb).mono ?_); rintro e w1 ⟨rfl, hb1⟩; have hT := hT.bl hb1; have hB := below_step (w := w) hB hb1))); all_goals (go_ret2; refine ⟨?_, hB⟩; simp [*, bne])
end Go.Proofs.YtlofelnfcdbedaaGreat.S
namespace Go.Proofs.YtlofelnfcdbedaaGreat.S
open Go.RowKit Go.BigFrame Go.Sort
set_option linter.unusedVariables false
set_option linter.unusedSimpArgs false

theorem findSome_at {β : Type} {f : Nat → Option β} {C : List Nat} {j n : Nat} (h0 : (C.take j).findSome? f = none) (hn : C[j]? = some n) : (C.take (j + 1)).findSome? f = f n := by
  rw [List.take_add_one, List.findSome?_append, h0, hn]
  simp
theorem findSome_take {β : Type} {f : Nat → Option β} {C : List Nat} {j : Nat} {t : β} (h : (C.take j).findSome? f = some t) : C.findSome? f = some t := by
  have := List.take_append_drop j C
  rw [← this, List.findSome?_append, h]
  rfl
theorem bs_data (s : ByteArray) (n : Nat) : (s ++ bs [UInt8.ofNat n]).data.toList = s.data.toList ++ [UInt8.ofNat n] := by
  simp [bs, ByteArray.data_append]
theorem bs_size1 (s : ByteArray) (x : UInt8) : (s ++ bs [x]).size = s.size + 1 := by
  simp [bs, ByteArray.size_append]
  rfl
set_option maxRecDepth 100000
set_option maxHeartbeats 4000000
theorem c_l14Find (A B : Option Addr) (xs ys : List Ru) (ca cb : Nat) : ∀ (k : Nat) (s : ByteArray) (w : World) (hT : Two w A B xs ys) (hs : s.size + k = 12), Calls Tryz.prog 19 #[.slice A xs.length ca, .slice B ys.length cb, .string s] w fun e w' => e = .returned (fndV k s (findF xs ys k s.data.toList)) ∧ Below w.heap.size w w'
  | 0, s, w, hT, hs => c_l14Find0 A B xs ys ca cb s w hT (by omega)
  | k + 1, s, w, hT, hs => by
    have ih := fun (n : Nat) (w' : World) (hT' : Two w' A B xs ys) => c_l14Find A B xs ys ca cb k (s ++ bs [UInt8.ofNat n]) w' hT' (by rw [bs_size1]; omega)
    have hB := Below.refl w.heap.size w
    have hcv := conv_new (P := Tryz.prog) 22 9 5 Tryz.underlying22 Tryz.underlying5 Tryz.underlying9
    have hsz : ((s.size : Int) == 12) = false := by simp; omega
    have hl : s.data.toList.length = s.size := by simp
    go_enter Tryz.func19, Tryz.ntmps19
    go_upto_region 8 with (go_at_call 29; ((with_reducible refine (c_l14Cuts' _ _ _ _ _ _ _ _ hT).mono ?_); rintro e w1 ⟨v1, rfl, hO, hb1⟩; obtain ⟨A1, c1, rfl, hOc⟩ := Row.shape hO; clear hO; have hB := below_step (w := w) hB hb1))
    obtain ⟨C, hC⟩ : ∃ C, cutsOf (xs ++ ys) s.size = C := ⟨_, rfl⟩
    have hCl : C.length ≤ 256 := by rw [← hC]; exact Nat.le_trans (List.length_filter_le _ _) (by simp)
    have hlt : ∀ n ∈ C, n < 256 := fun n hn => by rw [← hC] at hn; exact (mem_cuts.1 hn).1
    obtain ⟨f, hf⟩ : ∃ f : Nat → Option (List UInt8), (fun n => findF xs ys k (s.data.toList ++ [UInt8.ofNat n])) = f := ⟨_, rfl⟩
    have ih : ∀ (n : Nat) (w' : World), Two w' A B xs ys → Calls Tryz.prog 19 #[.slice A xs.length ca, .slice B ys.length cb, .string (s ++ bs [UInt8.ofNat n])] w' fun e w'' => e = .returned (fndV k (s ++ bs [UInt8.ofNat n]) (f n)) ∧ Below w'.heap.size w' w'' := fun n w' hT' => by
      have := ih n w' hT'
      rw [bs_data] at this
      rw [← hf]
      exact this
    have hfin : findF xs ys (k + 1) s.data.toList = C.findSome? f := by
      rw [← hC, ← hf, ← hl]
      rfl
    rw [hC] at hOc
    have hfin := Lib.hid hfin
    have hT1 := hT.bl hb1
    have hB1 := Below.refl w1.heap.size w1
    clear hf hl hb1 hT
    rw [hC]
    clear hC
    go_loopw [14] (fun v W => ∃ j : Nat, v = .int .i64 j ∧ j ≤ C.length ∧ (C.take j).findSome? f = none ∧ Below w1.heap.size w1 W) (fun v _ => C.length - (intOf v).toNat)
    case atStart => exact ⟨0, rfl, by omega, rfl, Below.refl _ _⟩
    case round =>
      obtain ⟨j, rfl, hj, hno, hB1⟩ := hrel
      by_cases hj2 : j < C.length
      · have hd : decide (j < C.length) = true := decide_eq_true hj2
        obtain ⟨n, hn⟩ : ∃ n, C[j]? = some n := ⟨C[j], List.getElem?_eq_getElem hj2⟩
        have hn256 := hlt n (List.mem_of_getElem? hn)
        obtain ⟨ad, rfl, _, hc⟩ := hOc j n hn
        have hc := cell_below hB1 _ _ hc
        have hT := (hT1.bl hB1).alloc (.cells #[.int .u8 (n : Int)] 5)
        have hst := Lib.hid (findSome_at hno hn)
        have hno := Lib.hid hno
        have hB2 := below_alloc (w := w) (below_step hB hB1) (.cells #[.int .u8 (n : Int)] 5)
        have hB3 := below_alloc hB1 (.cells #[.int .u8 (n : Int)] 5)
        have ihn := ih n _ hT
        have hsb : (bs [UInt8.ofNat n]).size = 1 := by rw [bs_size]; rfl
        have hs11 : s.size ≤ 11 := by omega
        clear hn ih
        rcases hfn : f n with _ | t
        · rw [hfn] at ihn hst
          have hst := Lib.hid hst.out
          go_wp2_with (go_at_call 19; ((with_reducible refine ihn.mono ?_); rintro e w2 ⟨rfl, hb2⟩; dsimp only [fndV]; have hB4 := below_step (w := w1) hB3 hb2))
          exact ⟨⟨j + 1, by go_num, by omega, hst.out, hB4⟩, by simp [intOf]; omega⟩
        · rw [hfn] at ihn hst
          have hst := Lib.hid (findSome_take hst.out)
          go_wp2_with (go_at_call 19; ((with_reducible refine ihn.mono ?_); rintro e w2 ⟨rfl, hb2⟩; dsimp only [fndV]; have hB4 := below_step (w := w) hB2 hb2))
          all_goals first
            | (exfalso; omega)
            | (go_ret2; refine ⟨?_, hB4⟩; rw [hfin.out, hst.out]; rfl)
      · have hd : decide (j < C.length) = false := decide_eq_false hj2
        have ej : C.take j = C := List.take_of_length_le (by omega)
        rw [ej] at hno
        have hno := Lib.hid hno
        have hB2 := below_step (w := w) hB hB1
        go_wp2
        go_ret2
        refine ⟨?_, hB2⟩
        rw [hfin.out, hno.out]
        rfl
end Go.Proofs.YtlofelnfcdbedaaGreat.S
namespace Go.Proofs.YtlofelnfcdbedaaGreat.S
open Go.RowKit Go.BigFrame Go.Sort
set_option linter.unusedVariables false
set_option linter.unusedSimpArgs false

/-- Whether two lists are looked at. -/
def lookB (xs ys : List Ru) : Bool := okB xs && okB ys && decide (waysTo (xs ++ ys) 12 ≤ 400)
/-- What is found of two lists. -/
def sameR (xs ys : List Ru) : Option (List UInt8) := if lookB xs ys then findF xs ys 12 [] else none
theorem c_l9Ok_v {rs : List Ru} {x : Bool} (hx : okB rs = x) (A : Option Addr) (c : Nat) (w : World) (h : RuAt w A rs) (hn : rs.length ≤ 1000) : Calls Tryz.prog 17 #[.slice A rs.length c] w fun e w' => e = .returned (.bool x) ∧ Below w.heap.size w w' :=
  (c_l9Ok A rs c w h hn).mono fun _ _ e => ⟨by rw [e.1, ← hx]; rfl, e.2⟩
theorem okB_all {rs : List Ru} (h : okB rs = true) : rs.all Ru.ok = true := by
  unfold okB at h
  exact (Bool.and_eq_true _ _ ▸ h).1
theorem c_l14Find_v (A B : Option Addr) (xs ys : List Ru) (ca cb : Nat) (w : World) (hT : Two w A B xs ys) (r : Option (List UInt8)) (hr : findF xs ys 12 [] = r) : Calls Tryz.prog 19 #[.slice A xs.length ca, .slice B ys.length cb, .string ⟨#[]⟩] w fun e w' => e = .returned (fndV 1 ⟨#[]⟩ r) ∧ Below w.heap.size w w' :=
  (c_l14Find A B xs ys ca cb 12 ⟨#[]⟩ w hT rfl).mono fun _ _ e => ⟨by rw [e.1, ← hr]; rfl, e.2⟩
set_option maxRecDepth 100000
set_option maxHeartbeats 2000000
theorem c_sSameFind (A B : Option Addr) (xs ys : List Ru) (ca cb : Nat) (w : World) (ha : RuAt w A xs) (hb : RuAt w B ys) (hna : xs.length ≤ 1000) (hnb : ys.length ≤ 1000) : Calls Tryz.prog 7 #[.slice A xs.length ca, .slice B ys.length cb] w fun e w' => e = .returned (fndV 1 ⟨#[]⟩ (sameR xs ys)) ∧ Below w.heap.size w w' := by
  have hB := Below.refl w.heap.size w
  rcases Bool.eq_false_or_eq_true (okB xs) with hx | hx
  · rcases Bool.eq_false_or_eq_true (okB ys) with hy | hy
    · obtain ⟨n, hn⟩ : ∃ n, waysTo (xs ++ ys) 12 = n := ⟨_, rfl⟩
      by_cases h4 : n ≤ 400
      · have hr : sameR xs ys = findF xs ys 12 [] := by simp [sameR, lookB, hx, hy, hn, h4]
        rw [hr]
        have hr := Lib.hid hr
        have hgt : decide (n > 400) = false := by simp; omega
        cases hf : findF xs ys 12 [] with
        | none =>
          go_enter Tryz.func7, Tryz.ntmps7
          go_wp2_with (first | (go_at_call 17; ((with_reducible refine (c_l9Ok_v hx _ _ _ ha hna).mono ?_); rintro e w1 ⟨rfl, hb1⟩; have ha := ha.bl hb1; have hb := hb.bl hb1; have hB := below_step (w := w) hB hb1)) | (go_at_call 17; ((with_reducible refine (c_l9Ok_v hy _ _ _ hb hnb).mono ?_); rintro e w1 ⟨rfl, hb1⟩; have ha := ha.bl hb1; have hb := hb.bl hb1; have hB := below_step (w := w) hB hb1)) | (go_at_call 18; ((with_reducible refine (c_l14Ways _ _ _ _ _ _ _ ⟨ha, hb, okB_all hx, okB_all hy, hna, hnb⟩).mono ?_); rintro e w1 ⟨rfl, hb1⟩; have ha := ha.bl hb1; have hb := hb.bl hb1; have hB := below_step (w := w) hB hb1)) | (go_at_call 19; ((with_reducible refine (c_l14Find_v _ _ _ _ _ _ _ ⟨ha, hb, okB_all hx, okB_all hy, hna, hnb⟩ _ hf).mono ?_); rintro e w1 ⟨rfl, hb1⟩; dsimp only [fndV]; have ha := ha.bl hb1; have hb := hb.bl hb1; have hB := below_step (w := w) hB hb1)))
          go_ret2
          exact ⟨rfl, hB⟩
        | some t =>
          go_enter Tryz.func7, Tryz.ntmps7
          go_wp2_with (first | (go_at_call 17; ((with_reducible refine (c_l9Ok_v hx _ _ _ ha hna).mono ?_); rintro e w1 ⟨rfl, hb1⟩; have ha := ha.bl hb1; have hb := hb.bl hb1; have hB := below_step (w := w) hB hb1)) | (go_at_call 17; ((with_reducible refine (c_l9Ok_v hy _ _ _ hb hnb).mono ?_); rintro e w1 ⟨rfl, hb1⟩; have ha := ha.bl hb1; have hb := hb.bl hb1; have hB := below_step (w := w) hB hb1)) | (go_at_call 18; ((with_reducible refine (c_l14Ways _ _ _ _ _ _ _ ⟨ha, hb, okB_all hx, okB_all hy, hna, hnb⟩).mono ?_); rintro e w1 ⟨rfl, hb1⟩; have ha := ha.bl hb1; have hb := hb.bl hb1; have hB := below_step (w := w) hB hb1)) | (go_at_call 19; ((with_reducible refine (c_l14Find_v _ _ _ _ _ _ _ ⟨ha, hb, okB_all hx, okB_all hy, hna, hnb⟩ _ hf).mono ?_); rintro e w1 ⟨rfl, hb1⟩; dsimp only [fndV]; have ha := ha.bl hb1; have hb := hb.bl hb1; have hB := below_step (w := w) hB hb1)))
          go_ret2
          exact ⟨rfl, hB⟩
      · have hr : sameR xs ys = none := by simp [sameR, lookB, hx, hy, hn, h4]
        rw [hr]
        have hgt : decide (n > 400) = true := by simp; omega
        go_enter Tryz.func7, Tryz.ntmps7
        go_wp2_with (first | (go_at_call 17; ((with_reducible refine (c_l9Ok_v hx _ _ _ ha hna).mono ?_); rintro e w1 ⟨rfl, hb1⟩; have ha := ha.bl hb1; have hb := hb.bl hb1; have hB := below_step (w := w) hB hb1)) | (go_at_call 17; ((with_reducible refine (c_l9Ok_v hy _ _ _ hb hnb).mono ?_); rintro e w1 ⟨rfl, hb1⟩; have ha := ha.bl hb1; have hb := hb.bl hb1; have hB := below_step (w := w) hB hb1)) | (go_at_call 18; ((with_reducible refine (c_l14Ways _ _ _ _ _ _ _ ⟨ha, hb, okB_all hx, okB_all hy, hna, hnb⟩).mono ?_); rintro e w1 ⟨rfl, hb1⟩; have ha := ha.bl hb1; have hb := hb.bl hb1; have hB := below_step (w := w) hB hb1)) | (go_at_call 19; ((with_reducible refine (c_l14Find_v _ _ _ _ _ _ _ ⟨ha, hb, okB_all hx, okB_all hy, hna, hnb⟩ _ hf).mono ?_); rintro e w1 ⟨rfl, hb1⟩; dsimp only [fndV]; have ha := ha.bl hb1; have hb := hb.bl hb1; have hB := below_step (w := w) hB hb1)))
        go_ret2
        exact ⟨rfl, hB⟩
    · have hr : sameR xs ys = none := by simp [sameR, lookB, hx, hy]
      rw [hr]
      go_enter Tryz.func7, Tryz.ntmps7
      go_wp2_with (first | (go_at_call 17; ((with_reducible refine (c_l9Ok_v hx _ _ _ ha hna).mono ?_); rintro e w1 ⟨rfl, hb1⟩; have ha := ha.bl hb1; have hb := hb.bl hb1; have hB := below_step (w := w) hB hb1)) | (go_at_call 17; ((with_reducible refine (c_l9Ok_v hy _ _ _ hb hnb).mono ?_); rintro e w1 ⟨rfl, hb1⟩; have ha := ha.bl hb1; have hb := hb.bl hb1; have hB := below_step (w := w) hB hb1)) | (go_at_call 18; ((with_reducible refine (c_l14Ways _ _ _ _ _ _ _ ⟨ha, hb, okB_all hx, okB_all hy, hna, hnb⟩).mono ?_); rintro e w1 ⟨rfl, hb1⟩; have ha := ha.bl hb1; have hb := hb.bl hb1; have hB := below_step (w := w) hB hb1)) | (go_at_call 19; ((with_reducible refine (c_l14Find_v _ _ _ _ _ _ _ ⟨ha, hb, okB_all hx, okB_all hy, hna, hnb⟩ _ hf).mono ?_); rintro e w1 ⟨rfl, hb1⟩; dsimp only [fndV]; have ha := ha.bl hb1; have hb := hb.bl hb1; have hB := below_step (w := w) hB hb1)))
      go_ret2
      exact ⟨rfl, hB⟩
  · have hr : sameR xs ys = none := by simp [sameR, lookB, hx]
    rw [hr]
    go_enter Tryz.func7, Tryz.ntmps7
    go_wp2_with (first | (go_at_call 17; ((with_reducible refine (c_l9Ok_v hx _ _ _ ha hna).mono ?_); rintro e w1 ⟨rfl, hb1⟩; have ha := ha.bl hb1; have hb := hb.bl hb1; have hB := below_step (w := w) hB hb1)) | (go_at_call 17; ((with_reducible refine (c_l9Ok_v hy _ _ _ hb hnb).mono ?_); rintro e w1 ⟨rfl, hb1⟩; have ha := ha.bl hb1; have hb := hb.bl hb1; have hB := below_step (w := w) hB hb1)) | (go_at_call 18; ((with_reducible refine (c_l14Ways _ _ _ _ _ _ _ ⟨ha, hb, okB_all hx, okB_all hy, hna, hnb⟩).mono ?_); rintro e w1 ⟨rfl, hb1⟩; have ha := ha.bl hb1; have hb := hb.bl hb1; have hB := below_step (w := w) hB hb1)) | (go_at_call 19; ((with_reducible refine (c_l14Find_v _ _ _ _ _ _ _ ⟨ha, hb, okB_all hx, okB_all hy, hna, hnb⟩ _ hf).mono ?_); rintro e w1 ⟨rfl, hb1⟩; dsimp only [fndV]; have ha := ha.bl hb1; have hb := hb.bl hb1; have hB := below_step (w := w) hB hb1)))
    go_ret2
    exact ⟨rfl, hB⟩
end Go.Proofs.YtlofelnfcdbedaaGreat.S
