/- Rules: tidied by the reference. Two lists of rules: drawn. -/
import Derived.Test.YtlofelnfcdbedaaGreatK22
import Derived.Test.YtlofelnfcdbedaaGreatK26
import Derived.Test.YtlofelnfcdbedaaGreatK27
import Derived.Test.YtlofelnfcdbedaaGreatK14
namespace Go.Proofs.YtlofelnfcdbedaaGreat.S
open Go.RowKit Go.BigFrame Go.Sort
set_option linter.unusedVariables false
set_option linter.unusedSimpArgs false
set_option maxRecDepth 100000

/-- A number in 32 bits, as a cell. -/
def is32 (u : Value) : Prop := ∃ x : Int, u = .int .i64 x ∧ I32 x
theorem is32_one (u : Value) (h : is32 u) : u.oneCell' = true := by obtain ⟨x, rfl, _⟩ := h; rfl
theorem elt_Range : Elt Tryz.prog 52 54 4 32 := elt_of (z := .agg #[.int .i64 0, .int .i64 0, .int .i64 0, .int .i64 0]) Tryz.underlying52 (by kernel_rfl) rfl (by decide)
theorem rg_all {a b c d : Int} (ha : I32 a) (hb : I32 b) (hc : I32 c) (hd : I32 d) : ∀ u ∈ (rgC a b c d).toList, is32 u := fun u hu => by
  simp only [List.mem_cons, List.not_mem_nil, or_false] at hu
  rcases hu with rfl | rfl | rfl | rfl
  · exact ⟨_, rfl, ha⟩
  · exact ⟨_, rfl, hb⟩
  · exact ⟨_, rfl, hc⟩
  · exact ⟨_, rfl, hd⟩
theorem ru_all (x : Ru) : ∀ u ∈ x.cs.toList, isI u := fun u hu => by
  obtain ⟨y, rfl⟩ := ruC_one [x] u (by simpa [ruC] using hu)
  exact ⟨y, rfl⟩
theorem OwnP.four {p : Value → Prop} {W : World} {base : Nat} {e : TypeId} {size : Nat} {v : Value} {n g : Nat} (h : OwnP p W base e size v n) (hne : v.ownBlock ≠ some g) (a b c d : Value) : OwnP p ((((W.setCell ⟨g, 0, none⟩ a).setCell ⟨g, 1, none⟩ b).setCell ⟨g, 2, none⟩ c).setCell ⟨g, 3, none⟩ d) base e size v n :=
  (((h.set (q := ⟨g, 0, none⟩) a hne).set (q := ⟨g, 1, none⟩) b hne).set (q := ⟨g, 2, none⟩) c hne).set (q := ⟨g, 3, none⟩) d hne
/-- Tidied rules. -/
def Tidied (w : World) (m : Nat) (e : Ending) (w' : World) : Prop := ∃ (v : Value) (n : Nat), e = .returned v ∧ OwnI w' w.heap.size 40 5 v n ∧ n ≤ m ∧ Below w.heap.size w w'
set_option maxHeartbeats 4000000
theorem c_RulesTidy (A : Option Addr) (rs : List Ru) (c : Nat) (w : World) (h : RuAt w A rs) (hn : rs.length ≤ 1000) : Calls Tryz.prog 14 #[.slice A rs.length c] w (Tidied w rs.length) := by
  have hE := OwnP.empty isI w w.heap.size 40 5 (Nat.le_refl _)
  have hB := below_new w (.cells #[] 40)
  have h' := h.bl hB
  rcases Bool.eq_false_or_eq_true (okB rs) with hx | hx
  · have hall := okB_all hx
    go_enter Tryz.func14, Tryz.ntmps14
    go_upto_region 5 with (go_at_call 17; ((with_reducible refine (c_l9Ok_v hx _ _ _ h' hn).mono ?_); rintro e w1 ⟨rfl, hb1⟩; have hE := hE.bl hb1; have hB := below_step (w := w) hB hb1))
    have hBs := hB.size
    have hG := OwnP.empty is32 w1 w.heap.size 54 4 hBs
    have hE := hE.alloc (.cells #[] 54)
    have hB := below_alloc hB (.cells #[] 54)
    generalize w1.alloc (.cells #[] 54) = W1 at *
    clear h' hb1
    go_wp2
    go_loopw [4, 5] (fun v i W => ∃ (k : Nat) (A4 : Option Addr) (c4 : Nat), i = .int .i64 k ∧ k ≤ 12 ∧ v = .slice A4 k c4 ∧ OwnP is32 W w.heap.size 54 4 (.slice A4 k c4) k ∧ OwnI W w.heap.size 40 5 (.slice (some ⟨w.heap.size, 0, none⟩) 0 0) 0 ∧ Below w.heap.size w W) (fun _ i _ => 12 - (intOf i).toNat)
    case atStart => exact ⟨0, _, _, rfl, by omega, rfl, hG, hE, hB⟩
    case round =>
      obtain ⟨K, A4, c4, rfl, hK, rfl, hG, hE, hB⟩ := hrel
      rcases Nat.lt_or_ge K 12 with hk2 | hk2
      · have hd : decide (K < 12) = true := decide_eq_true hk2
        have hd' : decide ((K : Int) < 12) = true := by simp; omega
        go_wp2_with (first | (go_at_call 25; ((with_reducible refine (c_l2Ends 0 255 _ zero_32 ⟨by omega, by omega⟩).mono ?_); rintro e w2 ⟨t, rfl, ⟨a, b, c2, d, rfl, ha, hb, hc, hd⟩, hb2⟩; have hG := hG.bl hb2; have hE := hE.bl hb2; have hB := below_step (w := w) hB hb2)) | (at_builtin; ((with_reducible refine app_p is32 is32_one elt_Range rfl _ _ rfl w2 (rgC a b c2 d) _ w.heap.size (.slice A4 K c4) K rfl _ _ _ rfl ?_ ?_ (rg_all ha hb hc hd) hG ?_ ?_ ?_ ?_); simp; rfl; omega; omega; exact hB.size; intro v' w' hG' hF'; obtain ⟨A5, c5, rfl, _⟩ := hG'.shape)))
        exact ⟨⟨K + 1, A5, c5, by go_num, by omega, rfl, hG', hE.far hF' (hE.apart hG (by decide)), hB.grown hF' hB.size (fun k hk => (hG.lt k hk).1)⟩, by simp [intOf]; omega⟩
      · have hd : decide (K < 12) = false := decide_eq_false (by omega)
        have hd' : decide ((K : Int) < 12) = false := by simp; omega
        obtain ⟨b, cb, e4, hbl, _⟩ := hG.form (by omega)
        simp only [Value.slice.injEq] at e4
        obtain ⟨rfl, _, rfl⟩ := e4
        go_wp2
        clear hbl
        go_loopw [3, 6] (fun v i W => ∃ (k n : Nat) (A3 : Option Addr) (c3 : Nat), i = .int .i64 k ∧ k ≤ rs.length ∧ v = .slice A3 n c3 ∧ n ≤ k ∧ OwnI W w.heap.size 40 5 (.slice A3 n c3) n ∧ OwnP is32 W w.heap.size 54 4 (.slice (some ⟨b, 0, none⟩) K c4) K ∧ Below w.heap.size w W) (fun _ i _ => rs.length - (intOf i).toNat)
        case atStart => exact ⟨0, 0, _, _, rfl, by omega, rfl, by omega, hE, hG, hB⟩
        case round =>
          obtain ⟨k, n, A3, c3, rfl, hk, rfl, hnk, hE, hG, hB⟩ := hrel
          by_cases hk2 : k < rs.length
          · have hd : decide (k < rs.length) = true := decide_eq_true hk2
            obtain ⟨⟨pp, o, m, v, e⟩, hx⟩ : ∃ x, rs[k]? = some x := ⟨rs[k], List.getElem?_eq_getElem hk2⟩
            have hxo : Ru.ok ⟨pp, o, m, v, e⟩ = true := List.all_eq_true.1 hall _ (List.mem_of_getElem? hx)
            simp only [Ru.ok, Bool.and_eq_true, inB_true] at hxo
            obtain ⟨⟨⟨⟨⟨⟨hp0, hp1⟩, ho1, ho2⟩, hm0, hm1⟩, _⟩, _⟩, _⟩ := hxo
            obtain ⟨q, rfl⟩ : ∃ q : Nat, pp = q := ⟨pp.toNat, by omega⟩
            have hm32 : I32 m := ⟨hm0, by omega⟩
            have hqK : q < K := by omega
            have hqd : decide (q < K) = true := decide_eq_true hqK
            obtain ⟨ad, rfl, hc⟩ := (h.bl hB) k _ hx
            have c0 : wr.cell? ⟨ad, k * 5, none⟩ = some (.int .i64 q) := hc 0 _ rfl
            have c1 : wr.cell? ⟨ad, k * 5 + 1, none⟩ = some (.int .i64 o) := hc 1 _ rfl
            have c2 : wr.cell? ⟨ad, k * 5 + 2, none⟩ = some (.int .i64 m) := hc 2 _ rfl
            have c3' : wr.cell? ⟨ad, k * 5 + 3, none⟩ = some (.int .i64 v) := hc 3 _ rfl
            have c4' : wr.cell? ⟨ad, k * 5 + 4, none⟩ = some (.int .i64 e) := hc 4 _ rfl
            clear hc hx hp0 hp1 hm0 hm1
            obtain ⟨_, ⟨ra, rfl, ha⟩, g0⟩ := hG.at_ (q * 4) (by omega)
            obtain ⟨_, ⟨rb, rfl, hb⟩, g1⟩ := hG.at_ (q * 4 + 1) (by omega)
            obtain ⟨_, ⟨rc, rfl, hc⟩, g2⟩ := hG.at_ (q * 4 + 2) (by omega)
            obtain ⟨_, ⟨rd, rfl, hdd⟩, g3⟩ := hG.at_ (q * 4 + 3) (by omega)
            have had : ad < wr.heap.size := World.block_lt_of_cell? wr _ c0
            have hbd : b < wr.heap.size := World.block_lt_of_cell? wr _ g0
            have hB0 := hB
            go_upto_region 13 with fail
            go_cut [9] (fun u W => ∃ x : Bool, u = .bool x ∧ (W.cell? ⟨ad, k * 5, none⟩ = some (.int .i64 q) ∧ W.cell? ⟨ad, k * 5 + 1, none⟩ = some (.int .i64 o) ∧ W.cell? ⟨ad, k * 5 + 2, none⟩ = some (.int .i64 m) ∧ W.cell? ⟨ad, k * 5 + 3, none⟩ = some (.int .i64 v) ∧ W.cell? ⟨ad, k * 5 + 4, none⟩ = some (.int .i64 e) ∧ W.cell? ⟨b, q * 4, none⟩ = some (.int .i64 ra) ∧ W.cell? ⟨b, q * 4 + 1, none⟩ = some (.int .i64 rb) ∧ W.cell? ⟨b, q * 4 + 2, none⟩ = some (.int .i64 rc) ∧ W.cell? ⟨b, q * 4 + 3, none⟩ = some (.int .i64 rd)) ∧ OwnI W w.heap.size 40 5 (.slice A3 n c3) n ∧ OwnP is32 W w.heap.size 54 4 (.slice (some ⟨b, 0, none⟩) K c4) K ∧ Below w.heap.size w W)
            case first =>
              go_region_held3 (fun W => W.cell? ⟨ad, k * 5, none⟩ = some (.int .i64 q) ∧ W.cell? ⟨ad, k * 5 + 1, none⟩ = some (.int .i64 o) ∧ W.cell? ⟨ad, k * 5 + 2, none⟩ = some (.int .i64 m) ∧ W.cell? ⟨ad, k * 5 + 3, none⟩ = some (.int .i64 v) ∧ W.cell? ⟨ad, k * 5 + 4, none⟩ = some (.int .i64 e) ∧ W.cell? ⟨b, q * 4, none⟩ = some (.int .i64 ra) ∧ W.cell? ⟨b, q * 4 + 1, none⟩ = some (.int .i64 rb) ∧ W.cell? ⟨b, q * 4 + 2, none⟩ = some (.int .i64 rc) ∧ W.cell? ⟨b, q * 4 + 3, none⟩ = some (.int .i64 rd)) (with_reducible (repeat (first | assumption | apply And.intro | apply cell_alloc | apply cell_drew | (refine cell_set ?_ _ (by simp; omega))))) ((go_at_call 26; (with_reducible refine (c_l9Range o m v e q ra rb rc rd true _ ho1 ho2 hm32 ha hb hc hdd).mono ?_); rintro e w2 ⟨t, x2, rfl, ⟨a2, b2, c2', d2, rfl, ha2, hb2, hc2, hd2⟩, hbb⟩; have c0 := cell_below hbb _ _ (by with_reducible (repeat (first | exact c0 | apply cell_alloc | apply cell_drew))); have c1 := cell_below hbb _ _ (by with_reducible (repeat (first | exact c1 | apply cell_alloc | apply cell_drew))); have c2 := cell_below hbb _ _ (by with_reducible (repeat (first | exact c2 | apply cell_alloc | apply cell_drew))); have c3' := cell_below hbb _ _ (by with_reducible (repeat (first | exact c3' | apply cell_alloc | apply cell_drew))); have c4' := cell_below hbb _ _ (by with_reducible (repeat (first | exact c4' | apply cell_alloc | apply cell_drew))); have g0 := cell_below hbb _ _ (by with_reducible (repeat (first | exact g0 | apply cell_alloc | apply cell_drew))); have g1 := cell_below hbb _ _ (by with_reducible (repeat (first | exact g1 | apply cell_alloc | apply cell_drew))); have g2 := cell_below hbb _ _ (by with_reducible (repeat (first | exact g2 | apply cell_alloc | apply cell_drew))); have g3 := cell_below hbb _ _ (by with_reducible (repeat (first | exact g3 | apply cell_alloc | apply cell_drew))); have hE := OwnP.bl (by with_reducible (repeat (first | exact hE | apply OwnP.alloc | apply OwnP.drew))) hbb; have hG := OwnP.bl (by with_reducible (repeat (first | exact hG | apply OwnP.alloc | apply OwnP.drew))) hbb; have hB := below_step (w := w) (by (with_reducible (repeat (first | exact Below.refl _ _ | assumption | apply below_alloc | apply below_drewN | apply below_drew | (refine below_step ?_ (by assumption)))))) hbb; (first | (have k1 := Blk.bl (Blk.new _ 54 (rgC 0 0 0 0)) hbb; obtain ⟨k10, k11, k12, k13⟩ := k1.cells4; have k1f := k1.frozen) | (have k1 := Blk.bl (Blk.new _ 54 (rgC 0 0 0 0)).drew hbb; obtain ⟨k10, k11, k12, k13⟩ := k1.cells4; have k1f := k1.frozen) | skip)))
              · go_wp2_with fail
                go_meet
                exact ⟨x2, rfl, (by (with_reducible (repeat (first | assumption | apply And.intro | apply cell_alloc | apply cell_drew | (refine cell_set ?_ _ (by simp; omega)))))), hE.alloc _, hG.alloc _, below_alloc hB _⟩
              · go_wp2_with fail
                go_meet
                exact ⟨x2, rfl, (by (with_reducible (repeat (first | assumption | apply And.intro | apply cell_alloc | apply cell_drew | (refine cell_set ?_ _ (by simp; omega)))))), hE.four (hE.notBlk k1 (by decide)) _ _ _ _, hG.four (by simp [Value.ownBlock]; omega) _ _ _ _, below_four hB hB0.size _ _ _ _⟩
            case rest =>
              clear hB hE hG c0 c1 c2 c3' c4' g0 g1 g2 g3
              obtain ⟨xa, rfl, ⟨c0, c1, c2, c3', c4', g0, g1, g2, g3⟩, hE, hG, hB⟩ := hcut
              have had : ad < wc.heap.size := World.block_lt_of_cell? wc _ c0
              have hbd : b < wc.heap.size := World.block_lt_of_cell? wc _ g0
              have hB0 := hB
              go_upto_region 14 with fail
              go_cut [10, 11] (fun u t W => ∃ (x : Bool) (gg : Nat) (pa pb pc pd : Int), t = .bool x ∧ u = .pointer (some ⟨gg, 0, none⟩) ∧ Blk W gg 54 (rgC pa pb pc pd) ∧ I32 pa ∧ I32 pb ∧ I32 pc ∧ I32 pd ∧ (W.cell? ⟨ad, k * 5, none⟩ = some (.int .i64 q) ∧ W.cell? ⟨ad, k * 5 + 1, none⟩ = some (.int .i64 o) ∧ W.cell? ⟨ad, k * 5 + 2, none⟩ = some (.int .i64 m) ∧ W.cell? ⟨ad, k * 5 + 3, none⟩ = some (.int .i64 v) ∧ W.cell? ⟨ad, k * 5 + 4, none⟩ = some (.int .i64 e) ∧ W.cell? ⟨b, q * 4, none⟩ = some (.int .i64 ra) ∧ W.cell? ⟨b, q * 4 + 1, none⟩ = some (.int .i64 rb) ∧ W.cell? ⟨b, q * 4 + 2, none⟩ = some (.int .i64 rc) ∧ W.cell? ⟨b, q * 4 + 3, none⟩ = some (.int .i64 rd)) ∧ OwnI W w.heap.size 40 5 (.slice A3 n c3) n ∧ OwnP is32 W w.heap.size 54 4 (.slice (some ⟨b, 0, none⟩) K c4) K ∧ Below w.heap.size w W ∧ b ≠ gg)
              case first =>
                go_region_held3 (fun W => W.cell? ⟨ad, k * 5, none⟩ = some (.int .i64 q) ∧ W.cell? ⟨ad, k * 5 + 1, none⟩ = some (.int .i64 o) ∧ W.cell? ⟨ad, k * 5 + 2, none⟩ = some (.int .i64 m) ∧ W.cell? ⟨ad, k * 5 + 3, none⟩ = some (.int .i64 v) ∧ W.cell? ⟨ad, k * 5 + 4, none⟩ = some (.int .i64 e) ∧ W.cell? ⟨b, q * 4, none⟩ = some (.int .i64 ra) ∧ W.cell? ⟨b, q * 4 + 1, none⟩ = some (.int .i64 rb) ∧ W.cell? ⟨b, q * 4 + 2, none⟩ = some (.int .i64 rc) ∧ W.cell? ⟨b, q * 4 + 3, none⟩ = some (.int .i64 rd)) (with_reducible (repeat (first | assumption | apply And.intro | apply cell_alloc | apply cell_drew | (refine cell_set ?_ _ (by simp; omega))))) ((go_at_call 26; (with_reducible refine (c_l9Range o m v e q ra rb rc rd false _ ho1 ho2 hm32 ha hb hc hdd).mono ?_); rintro e w2 ⟨t, x2, rfl, ⟨a2, b2, c2', d2, rfl, ha2, hb2, hc2, hd2⟩, hbb⟩; have hbs := hbb.size; (try simp only [size_drew, World.size_alloc] at hbs); have c0 := cell_below hbb _ _ (by with_reducible (repeat (first | exact c0 | apply cell_alloc | apply cell_drew))); have c1 := cell_below hbb _ _ (by with_reducible (repeat (first | exact c1 | apply cell_alloc | apply cell_drew))); have c2 := cell_below hbb _ _ (by with_reducible (repeat (first | exact c2 | apply cell_alloc | apply cell_drew))); have c3' := cell_below hbb _ _ (by with_reducible (repeat (first | exact c3' | apply cell_alloc | apply cell_drew))); have c4' := cell_below hbb _ _ (by with_reducible (repeat (first | exact c4' | apply cell_alloc | apply cell_drew))); have g0 := cell_below hbb _ _ (by with_reducible (repeat (first | exact g0 | apply cell_alloc | apply cell_drew))); have g1 := cell_below hbb _ _ (by with_reducible (repeat (first | exact g1 | apply cell_alloc | apply cell_drew))); have g2 := cell_below hbb _ _ (by with_reducible (repeat (first | exact g2 | apply cell_alloc | apply cell_drew))); have g3 := cell_below hbb _ _ (by with_reducible (repeat (first | exact g3 | apply cell_alloc | apply cell_drew))); have hE := OwnP.bl (by with_reducible (repeat (first | exact hE | apply OwnP.alloc | apply OwnP.drew))) hbb; have hG := OwnP.bl (by with_reducible (repeat (first | exact hG | apply OwnP.alloc | apply OwnP.drew))) hbb; have hB := below_step (w := w) (by (with_reducible (repeat (first | exact Below.refl _ _ | assumption | apply below_alloc | apply below_drewN | apply below_drew | (refine below_step ?_ (by assumption)))))) hbb; (first | (have k1 := Blk.bl (Blk.new _ 54 (rgC 0 0 0 0)) hbb; obtain ⟨k10, k11, k12, k13⟩ := k1.cells4; have k1f := k1.frozen) | (have k1 := Blk.bl (Blk.new _ 54 (rgC 0 0 0 0)).drew hbb; obtain ⟨k10, k11, k12, k13⟩ := k1.cells4; have k1f := k1.frozen) | skip)))
                · go_wp2_with fail
                  go_meet
                  exact ⟨x2, _, a2, b2, c2', d2, rfl, rfl, Blk.new _ _ _, ha2, hb2, hc2, hd2, (by (with_reducible (repeat (first | assumption | apply And.intro | apply cell_alloc | apply cell_drew | (refine cell_set ?_ _ (by simp; omega)))))), hE.alloc _, hG.alloc _, below_alloc hB _, (by omega)⟩
                · go_wp2_with fail
                  go_meet
                  exact ⟨x2, _, a2, b2, c2', d2, rfl, rfl, k1.four _ _ _ _, ha2, hb2, hc2, hd2, (by (with_reducible (repeat (first | assumption | apply And.intro | apply cell_alloc | apply cell_drew | (refine cell_set ?_ _ (by simp; omega)))))), hE.four (hE.notBlk k1 (by decide)) _ _ _ _, hG.four (by simp [Value.ownBlock]; omega) _ _ _ _, below_four hB hB0.size _ _ _ _, (by omega)⟩
              case rest =>
                clear hB hE hG c0 c1 c2 c3' c4' g0 g1 g2 g3 hB0 had hbd
                obtain ⟨xb, gg, pa, pb, pc, pd, rfl, rfl, hX, hpa, hpb, hpc, hpd, ⟨c0, c1, c2, c3', c4', g0, g1, g2, g3⟩, hE, hG, hB, hbg⟩ := hcut
                cases xa with
                | false =>
                  go_wp2_with fail
                  exact ⟨⟨k + 1, n, A3, c3, by go_num, by omega, rfl, by omega, hE, hG, hB⟩, by simp [intOf]; omega⟩
                | true =>
                  cases xb with
                  | false =>
                    go_wp2_with (at_builtin; ((with_reducible refine app_p isI isI_one elt_Rule' rfl _ _ rfl wc (#[.int .i64 q, .int .i64 o, .int .i64 m, .int .i64 v, .int .i64 e]) _ w.heap.size (.slice A3 n c3) n rfl _ _ _ rfl ?_ ?_ (by simp [isI]) hE ?_ ?_ ?_ ?_); simp; rfl; omega; omega; exact hB.size; intro v' w' hO2 hF'; obtain ⟨A4, c5, rfl, _⟩ := hO2.shape; have hG2 := hG.far hF' (hG.apart hE (by decide)); have hX2 := hX.grown hF' (fun e1 => hE.notBlk hX (by decide) e1.symm); have hB2 := hB.grown hF' hB.size (fun k hk => (hE.lt k hk).1)))
                    go_ret
                    exact ⟨_, n + 1, rfl, hO2, by omega, hB2⟩
                  | true =>
                    go_upto_region 19 with (at_builtin; ((with_reducible refine app_p isI isI_one elt_Rule' rfl _ _ rfl wc (#[.int .i64 q, .int .i64 o, .int .i64 m, .int .i64 v, .int .i64 e]) _ w.heap.size (.slice A3 n c3) n rfl _ _ _ rfl ?_ ?_ (by simp [isI]) hE ?_ ?_ ?_ ?_); simp; rfl; omega; omega; exact hB.size; intro v' w' hO2 hF'; obtain ⟨A4, c5, rfl, _⟩ := hO2.shape; have hG2 := hG.far hF' (hG.apart hE (by decide)); have hX2 := hX.grown hF' (fun e1 => hE.notBlk hX (by decide) e1.symm); have hB2 := hB.grown hF' hB.size (fun k hk => (hE.lt k hk).1)))
                    clear hE hG hB c0 c1 c2 c3' c4' g0 g1 g2 g3
                    obtain ⟨x0, x1, x2, x3⟩ := hX2.cells4
                    obtain ⟨_, _, g0⟩ := hG2.at_ (q * 4) (by omega)
                    obtain ⟨_, _, g1⟩ := hG2.at_ (q * 4 + 1) (by omega)
                    obtain ⟨_, _, g2⟩ := hG2.at_ (q * 4 + 2) (by omega)
                    obtain ⟨_, _, g3⟩ := hG2.at_ (q * 4 + 3) (by omega)
                    have gf := hG2.frozen
                    have hp4 := (((hG2.putP (q * 4) (.int .i64 pa) ⟨_, rfl, hpa⟩).putP (q * 4 + 1) (.int .i64 pb) ⟨_, rfl, hpb⟩).putP (q * 4 + 2) (.int .i64 pc) ⟨_, rfl, hpc⟩).putP (q * 4 + 3) (.int .i64 pd) ⟨_, rfl, hpd⟩
                    have hne : (Value.slice A4 (n + 1) c5).ownBlock ≠ some b := fun e1 => by
                      rcases hO2.apart hG2 (by decide) with h1 | h1
                      · rw [h1] at e1; cases e1
                      · exact h1 e1
                    have ho4 := (((hO2.set (q := ⟨b, q * 4, none⟩) (.int .i64 pa) hne).set (q := ⟨b, q * 4 + 1, none⟩) (.int .i64 pb) hne).set (q := ⟨b, q * 4 + 2, none⟩) (.int .i64 pc) hne).set (q := ⟨b, q * 4 + 3, none⟩) (.int .i64 pd) hne
                    have hbw : w.heap.size ≤ b := (hG2.lt b rfl).1
                    have hb4 := below_set (below_set (below_set (below_set hB2 (p := ⟨b, q * 4, none⟩) hbw (.int .i64 pa)) (p := ⟨b, q * 4 + 1, none⟩) hbw (.int .i64 pb)) (p := ⟨b, q * 4 + 2, none⟩) hbw (.int .i64 pc)) (p := ⟨b, q * 4 + 3, none⟩) hbw (.int .i64 pd)
                    go_wp2_with fail
                    exact ⟨⟨k + 1, n + 1, A4, c5, by go_num, by omega, rfl, by omega, ho4, hp4, hb4⟩, by simp [intOf]; omega⟩
          · have hd : decide (k < rs.length) = false := decide_eq_false hk2
            go_wp2
            go_ret
            exact ⟨_, n, rfl, hE, by omega, hB⟩
  · go_enter Tryz.func14, Tryz.ntmps14
    go_wp2_with (go_at_call 17; ((with_reducible refine (c_l9Ok_v hx _ _ _ h' hn).mono ?_); rintro e w1 ⟨rfl, hb1⟩; have hE := hE.bl hb1; have hB := below_step (w := w) hB hb1))
    go_ret
    exact ⟨_, 0, rfl, hE, by omega, hB⟩
end Go.Proofs.YtlofelnfcdbedaaGreat.S
namespace Go.Proofs.YtlofelnfcdbedaaGreat.S
open Go.RowKit Go.BigFrame Go.Sort
set_option linter.unusedVariables false
set_option linter.unusedSimpArgs false

theorem chop_ru : ∀ (n : Nat) (us : List Value), us.length = n * 5 → (∀ u ∈ us, isI u) → ∃ rs : List Ru, rs.length = n ∧ us = ruC rs
  | 0, us, h, _ => ⟨[], rfl, List.length_eq_zero_iff.1 (by omega)⟩
  | n + 1, us, h, hu => by
    match us, h with
    | a :: b :: c :: d :: e :: us, h =>
      obtain ⟨rs, h1, h2⟩ := chop_ru n us (by simp at h; omega) (fun u hx => hu u (by simp [hx]))
      obtain ⟨x1, rfl⟩ := hu a (by simp)
      obtain ⟨x2, rfl⟩ := hu b (by simp)
      obtain ⟨x3, rfl⟩ := hu c (by simp)
      obtain ⟨x4, rfl⟩ := hu d (by simp)
      obtain ⟨x5, rfl⟩ := hu e (by simp)
      exact ⟨⟨x1, x2, x3, x4, x5⟩ :: rs, by simp [h1], by rw [h2]; rfl⟩
    | [], h => simp at h
    | [_], h => simp at h; omega
    | [_, _], h => simp at h; omega
    | [_, _, _], h => simp at h; omega
    | [_, _, _, _], h => simp at h; omega
theorem own_sl {W : World} {base n : Nat} {v : Value} (h : OwnI W base 40 5 v n) : ∃ rs : List Ru, rs.length = n ∧ RuSl W v rs := by
  obtain ⟨us, h, hu⟩ := h
  obtain ⟨rs, rfl, rfl⟩ := chop_ru n us h.1 hu
  exact ⟨rs, rfl, RuRow.sl h⟩
theorem ne_rows {v1 v2 : Value} {N : Nat} (h1 : ∀ k, v1.ownBlock = some k → k < N) (h2 : ∀ k, v2.ownBlock = some k → N ≤ k) : v1.ownBlock = none ∨ v1.ownBlock ≠ v2.ownBlock := by
  cases e : v1.ownBlock with
  | none => exact .inl rfl
  | some k =>
    refine .inr fun e2 => ?_
    have := h1 k e
    have := h2 k e2.symm
    omega
theorem cell_gr {w w' : World} {r : Option Nat} (hg : w.grownBy w' r) {a : Addr} {v : Value} (h : w.cell? a = some v) (hne : some a.block ≠ r) : w'.cell? a = some v := (hg.cell_far a (World.block_lt_of_cell? w a h) hne).trans h
theorem below_gr2 {w W W' : World} {r : Option Nat} (h : Below w.heap.size w W) (hG : W.grownBy W' r) (hk : ∀ k, r = some k → w.heap.size ≤ k) : Below w.heap.size w W' := h.grown hG h.size hk
theorem ne_rows' {v1 v2 : Value} {N b S : Nat} (h1 : ∀ k, v1.ownBlock = some k → k < N) (h2 : ∀ k, v2.ownBlock = some k → N ≤ k ∧ k < S) (hb : v1.ownBlock = some b) : some b ≠ v2.ownBlock := fun e => by
  have := h1 b hb
  have := (h2 b e.symm).1
  omega
theorem src_blk {W : World} {g : Nat} {t : TypeId} {a b c d e : Int} (h : Blk W g t #[.int .i64 a, .int .i64 b, .int .i64 c, .int .i64 d, .int .i64 e]) : ∀ i, i < 1 * 5 → ∃ u, isI u ∧ W.cell? ((⟨g, 0, none⟩ : Addr).add i) = some u := fun i hi => by
  rw [add_plain, h.cell i]
  match i, hi with
  | 0, _ => exact ⟨_, ⟨a, rfl⟩, rfl⟩
  | 1, _ => exact ⟨_, ⟨b, rfl⟩, rfl⟩
  | 2, _ => exact ⟨_, ⟨c, rfl⟩, rfl⟩
  | 3, _ => exact ⟨_, ⟨d, rfl⟩, rfl⟩
  | 4, _ => exact ⟨_, ⟨e, rfl⟩, rfl⟩
theorem src_tail {W : World} {base : Nat} {e : TypeId} {b n c : Nat} (h : OwnI W base e 5 (.slice (some ⟨b, 0, none⟩) n c) n) : ∀ j, j < (n - 1) * 5 → ∃ u, isI u ∧ W.cell? ((⟨b, 5, none⟩ : Addr).add j) = some u := fun j hj => by
  obtain ⟨x, hx⟩ := h.cell (5 + j) (by omega)
  exact ⟨_, ⟨x, rfl⟩, by rw [add_at]; exact hx⟩
/-- Two lists of rules come back. -/
def Lists (w : World) (e : Ending) (w' : World) : Prop := ∃ (v1 v2 : Value) (xs ys : List Ru), e = .returned (.tuple #[v1, v2]) ∧ RuSl w' v1 xs ∧ RuSl w' v2 ys ∧ xs.length ≤ 10 ∧ ys.length ≤ 10 ∧ Below w.heap.size w w'
theorem Lists.mk' {w w' : World} {v1 v2 : Value} {n m b1 b2 : Nat} (h1 : OwnI w' b1 40 5 v1 n) (h2 : OwnI w' b2 40 5 v2 m) (hn : n ≤ 10) (hm : m ≤ 10) (hb : Below w.heap.size w w') : Lists w (.returned (.tuple #[v1, v2])) w' := by
  obtain ⟨xs, rfl, hx⟩ := own_sl h1
  obtain ⟨ys, rfl, hy⟩ := own_sl h2
  exact ⟨v1, v2, xs, ys, rfl, hx, hy, hn, hm, hb⟩
set_option maxRecDepth 100000
set_option maxHeartbeats 4000000
theorem c_DrawSameFind (A : Option Addr) (n c B : Nat) (w : World) (hB : B ≤ w.heap.size) (hb : Bytes B A n w) (hc : n ≤ c) (hn : n ≤ 140737488351232) : Calls Tryz.prog 5 #[.slice A n c] w (Lists w) := by
  go_enter Tryz.func5, Tryz.ntmps5
  go_upto_region 4 with (first | (go_at_call 11; ((with_reducible refine (c_l20Open _ _ _ B _ hB hb hc hn).mono ?_); rintro e w1 ⟨g, rfl, hg, hR, hb1⟩)) | (go_at_call 12; ((with_reducible refine (c_l20Few _ _ _ _ hR ?_).mono ?_); omega; rintro e w2 ⟨A2, m, c2, rfl, hO, hm, hR2, hF2⟩; have hb2 := below_rd hb1 hg hF2)) | (go_at_call 13; ((with_reducible refine (c_pick 4 _ _ _ _ hR2 ?_).mono ?_); omega; rintro e w3 ⟨q, rfl, hq0, hq1, _, hR3, hG3⟩; have hO3 := hO.gr hG3 hR.lt; have hb3 := below_rd hb2 hg hG3)))
  have hgl := hR.lt
  clear hb hB hc hR hb1 hO hR2 hF2 hb2 hG3
  rcases (show q = 0 ∨ q = 1 ∨ q = 2 ∨ q = 3 by omega) with rfl | rfl | rfl | rfl
  · obtain ⟨rs, rfl, A5, c5, e5, hru, _⟩ := own_sl hO3
    simp only [Value.slice.injEq] at e5
    obtain ⟨rfl, _, rfl⟩ := e5
    go_wp2_with (go_at_call 14; ((with_reducible refine (c_RulesTidy _ _ _ _ hru (by omega)).mono ?_); rintro e w4 ⟨v4, m4, rfl, hO4, hm4, hb4⟩))
    go_ret2
    exact Lists.mk' (hO3.bl hb4) hO4 (by omega) (by omega) (below_step hb3 hb4)
  · go_wp2_with (first | (at_builtin; ((with_reducible refine app_two isI isI_one elt_Rule' rfl _ _ rfl _ w3.heap.size (.slice (some ⟨w3.heap.size, 0, none⟩) 0 0) 0 rfl w1.heap.size (.slice A2 m c2) m rfl (hO3.alloc _) (OwnP.empty isI w3 _ _ _ (Nat.le_refl _)) ?_ ?_ ?_ ?_); omega; omega; (simp); intro v5 w5 hO5 hG5; rw [Nat.zero_add] at hO5; obtain ⟨A5, c5, rfl, _⟩ := hO5.shape; have hlt3 := fun k h => (hO3.lt k h).2; have hO35 := (hO3.alloc _).far hG5 (ne_rows hlt3 (fun k hk => Nat.le_of_eq (Option.some.inj hk))); have hR5 := (hR3.alloc _).grown hG5 (fun k hk => by have h1 := hR3.lt; have h2 := hR3.ge; have h3 : w3.heap.size = k := Option.some.inj hk; omega); have hb5 := below_own (below_alloc hb3 _) hG5 hb3.size)) | (go_at_call 12; ((with_reducible refine (c_l20Few _ _ _ _ hR5 ?_).mono ?_); omega; rintro e w6 ⟨A6, m6, c6, rfl, hO6, hm6, hR6, hF6⟩; have hb6 := below_rd hb5 hg hF6; have hO36 := hO35.gr hF6 hgl; have hO56 := hO5.gr hF6 (show g < w3.heap.size from hR3.lt))) | (at_builtin; ((with_reducible refine app_two isI isI_one elt_Rule' rfl _ _ rfl _ w3.heap.size (.slice A5 m c5) m rfl w5.heap.size (.slice A6 m6 c6) m6 rfl hO6 hO56 ?_ ?_ ?_ ?_); omega; omega; (have h1 := World.grownBy.size hF6; have h2 := World.grownBy.size hG5; simp at h2; omega); intro v7 w7 hO7 hG7; have hO37 := hO36.far hG7 (ne_rows hlt3 (fun k hk => (hO56.lt k hk).1)); have hb7 := hb6.grown hG7 hb6.size (fun k hk => Nat.le_trans hb3.size (hO56.lt k hk).1))))
    go_ret2
    exact Lists.mk' hO37 hO7 (by omega) (by omega) hb7
  · go_upto_region 9 with fail
    by_cases hm1 : 1 < m
    · have hd : decide ((m : Int) > 1) = true := by simp; omega
      obtain ⟨b, cb, e4, hbl, hbw⟩ := hO3.form (by omega)
      simp only [Value.slice.injEq] at e4
      obtain ⟨rfl, _, rfl⟩ := e4
      obtain ⟨y0, z0⟩ := hO3.cell 0 (by omega)
      obtain ⟨y1, z1⟩ := hO3.cell 1 (by omega)
      obtain ⟨y2, z2⟩ := hO3.cell 2 (by omega)
      obtain ⟨y3, z3⟩ := hO3.cell 3 (by omega)
      obtain ⟨y4, z4⟩ := hO3.cell 4 (by omega)
      have hlt3 := fun k h => (hO3.lt k h).2
      have hE1 := OwnP.empty isI w3 w3.heap.size 40 5 (Nat.le_refl _)
      have hm5 : (m : Int) ≤ 3 := by omega
      have hmc : m ≤ c2 := by
        obtain ⟨_, c5, e5, h5⟩ := hO3.shape
        cases e5
        exact h5
      have hb30 := hb3
      have i1 : (0 : Int) < (m : Int) := by omega
      have i2 : (1 : Int) ≤ (m : Int) := by omega
      have i3 : 0 < m := by omega
      have i4 : 1 ≤ m := by omega
      have i5 : ¬ ((m : Int) < 1) := by omega
      have i6 : ¬ (m < 1) := by omega
      have i7 : ¬ (c2 < m) := by omega
      have i8 : ¬ ((c2 : Int) < (m : Int)) := by omega
      have i9 : 1 ≤ c2 := by omega
      have i10 : ¬ (c2 = 1) := by omega
      go_upto_region 10 with fail
      go_region_held3 (fun W => W.cell? ⟨b, 0, none⟩ = some (.int .i64 y0) ∧ W.cell? ⟨b, 1, none⟩ = some (.int .i64 y1) ∧ W.cell? ⟨b, 2, none⟩ = some (.int .i64 y2) ∧ W.cell? ⟨b, 3, none⟩ = some (.int .i64 y3) ∧ W.cell? ⟨b, 4, none⟩ = some (.int .i64 y4)) (with_reducible (repeat (first | assumption | apply And.intro | apply cell_alloc | apply cell_drew | (refine cell_set ?_ _ (by simp; omega))))) (first | (refine step_app_src isI isI_one elt_Rule' rfl _ _ rfl _ w3.heap.size (.slice (some ⟨w3.heap.size, 0, none⟩) 0 0) 0 rfl ⟨b, 5, none⟩ (m - 1) (c2 - 1) rfl (src_tail (by with_reducible (repeat (first | exact hO3 | apply OwnP.alloc | apply OwnP.drew)))) hE1.drew ?_ ?_ ?_ ?_; omega; omega; (focus first | (simp; done) | (simp [size_drew]; omega)); intro v1 w4 hP1 hG1; rw [Nat.zero_add] at hP1; obtain ⟨A5, c5, rfl, _⟩ := hP1.shape; have z0 := cell_gr (a := ⟨b, 0, none⟩) hG1 (by with_reducible (repeat (first | exact z0 | apply cell_alloc | apply cell_drew))) (by simp [Value.ownBlock]; omega); have z1 := cell_gr (a := ⟨b, 1, none⟩) hG1 (by with_reducible (repeat (first | exact z1 | apply cell_alloc | apply cell_drew))) (by simp [Value.ownBlock]; omega); have z2 := cell_gr (a := ⟨b, 2, none⟩) hG1 (by with_reducible (repeat (first | exact z2 | apply cell_alloc | apply cell_drew))) (by simp [Value.ownBlock]; omega); have z3 := cell_gr (a := ⟨b, 3, none⟩) hG1 (by with_reducible (repeat (first | exact z3 | apply cell_alloc | apply cell_drew))) (by simp [Value.ownBlock]; omega); have z4 := cell_gr (a := ⟨b, 4, none⟩) hG1 (by with_reducible (repeat (first | exact z4 | apply cell_alloc | apply cell_drew))) (by simp [Value.ownBlock]; omega); have hO3 := OwnP.far (by with_reducible (repeat (first | exact hO3 | apply OwnP.alloc | apply OwnP.drew))) hG1 (ne_rows hlt3 (fun k hk => by have h9 : w3.heap.size = k := Option.some.inj hk; omega)); have hb3 := below_own (w := w) (by (with_reducible (repeat (first | exact Below.refl _ _ | assumption | apply below_alloc | apply below_drewN | apply below_drew | (refine below_step ?_ (by assumption)))))) hG1 (show w.heap.size ≤ w3.heap.size by have := hb3.size; omega); (first | (have hL := Blk.grown (Blk.new' (w := w3.alloc (.cells #[] 40)) (g := w3.heap.size + 1) (by simp) 40 #[.int .i64 y0, .int .i64 y1, .int .i64 y2, .int .i64 y3, .int .i64 y4]).drew hG1 (by simp [Value.ownBlock])) | (have hL := Blk.grown ((Blk.new w3 40 #[.int .i64 y0, .int .i64 y1, .int .i64 y2, .int .i64 y3, .int .i64 y4]).alloc (.cells #[] 40)).drew hG1 (by simp [Value.ownBlock])) | skip)) | (refine step_app_src isI isI_one elt_Rule' rfl _ _ rfl _ w3.heap.size (.slice (some ⟨w3.heap.size, 0, none⟩) 0 0) 0 rfl ⟨b, 5, none⟩ (m - 1) (c2 - 1) rfl (src_tail (by with_reducible (repeat (first | exact hO3 | apply OwnP.alloc | apply OwnP.drew)))) (hE1.alloc _).drew ?_ ?_ ?_ ?_; omega; omega; (focus first | (simp; done) | (simp [size_drew]; omega)); intro v1 w4 hP1 hG1; rw [Nat.zero_add] at hP1; obtain ⟨A5, c5, rfl, _⟩ := hP1.shape; have z0 := cell_gr (a := ⟨b, 0, none⟩) hG1 (by with_reducible (repeat (first | exact z0 | apply cell_alloc | apply cell_drew))) (by simp [Value.ownBlock]; omega); have z1 := cell_gr (a := ⟨b, 1, none⟩) hG1 (by with_reducible (repeat (first | exact z1 | apply cell_alloc | apply cell_drew))) (by simp [Value.ownBlock]; omega); have z2 := cell_gr (a := ⟨b, 2, none⟩) hG1 (by with_reducible (repeat (first | exact z2 | apply cell_alloc | apply cell_drew))) (by simp [Value.ownBlock]; omega); have z3 := cell_gr (a := ⟨b, 3, none⟩) hG1 (by with_reducible (repeat (first | exact z3 | apply cell_alloc | apply cell_drew))) (by simp [Value.ownBlock]; omega); have z4 := cell_gr (a := ⟨b, 4, none⟩) hG1 (by with_reducible (repeat (first | exact z4 | apply cell_alloc | apply cell_drew))) (by simp [Value.ownBlock]; omega); have hO3 := OwnP.far (by with_reducible (repeat (first | exact hO3 | apply OwnP.alloc | apply OwnP.drew))) hG1 (ne_rows hlt3 (fun k hk => by have h9 : w3.heap.size = k := Option.some.inj hk; omega)); have hb3 := below_own (w := w) (by (with_reducible (repeat (first | exact Below.refl _ _ | assumption | apply below_alloc | apply below_drewN | apply below_drew | (refine below_step ?_ (by assumption)))))) hG1 (show w.heap.size ≤ w3.heap.size by have := hb3.size; omega); (first | (have hL := Blk.grown (Blk.new' (w := w3.alloc (.cells #[] 40)) (g := w3.heap.size + 1) (by simp) 40 #[.int .i64 y0, .int .i64 y1, .int .i64 y2, .int .i64 y3, .int .i64 y4]).drew hG1 (by simp [Value.ownBlock])) | (have hL := Blk.grown ((Blk.new w3 40 #[.int .i64 y0, .int .i64 y1, .int .i64 y2, .int .i64 y3, .int .i64 y4]).alloc (.cells #[] 40)).drew hG1 (by simp [Value.ownBlock])) | skip)) | (refine step_app_src isI isI_one elt_Rule' rfl _ _ rfl _ w3.heap.size (.slice (some ⟨(w3.heap.size + 1), 0, none⟩) 0 0) 0 rfl ⟨b, 5, none⟩ (m - 1) (c2 - 1) rfl (src_tail (by with_reducible (repeat (first | exact hO3 | apply OwnP.alloc | apply OwnP.drew)))) (OwnP.empty' isI (w3.alloc _) w3.heap.size (w3.heap.size + 1) _ _ (by simp) (by simp)).drew ?_ ?_ ?_ ?_; omega; omega; (focus first | (simp; done) | (simp [size_drew]; omega)); intro v1 w4 hP1 hG1; rw [Nat.zero_add] at hP1; obtain ⟨A5, c5, rfl, _⟩ := hP1.shape; have z0 := cell_gr (a := ⟨b, 0, none⟩) hG1 (by with_reducible (repeat (first | exact z0 | apply cell_alloc | apply cell_drew))) (by simp [Value.ownBlock]; omega); have z1 := cell_gr (a := ⟨b, 1, none⟩) hG1 (by with_reducible (repeat (first | exact z1 | apply cell_alloc | apply cell_drew))) (by simp [Value.ownBlock]; omega); have z2 := cell_gr (a := ⟨b, 2, none⟩) hG1 (by with_reducible (repeat (first | exact z2 | apply cell_alloc | apply cell_drew))) (by simp [Value.ownBlock]; omega); have z3 := cell_gr (a := ⟨b, 3, none⟩) hG1 (by with_reducible (repeat (first | exact z3 | apply cell_alloc | apply cell_drew))) (by simp [Value.ownBlock]; omega); have z4 := cell_gr (a := ⟨b, 4, none⟩) hG1 (by with_reducible (repeat (first | exact z4 | apply cell_alloc | apply cell_drew))) (by simp [Value.ownBlock]; omega); have hO3 := OwnP.far (by with_reducible (repeat (first | exact hO3 | apply OwnP.alloc | apply OwnP.drew))) hG1 (ne_rows hlt3 (fun k hk => by have h9 : (w3.heap.size + 1) = k := Option.some.inj hk; omega)); have hb3 := below_own (w := w) (by (with_reducible (repeat (first | exact Below.refl _ _ | assumption | apply below_alloc | apply below_drewN | apply below_drew | (refine below_step ?_ (by assumption)))))) hG1 (show w.heap.size ≤ (w3.heap.size + 1) by have := hb3.size; omega); (first | (have hL := Blk.grown (Blk.new' (w := w3.alloc (.cells #[] 40)) (g := w3.heap.size + 1) (by simp) 40 #[.int .i64 y0, .int .i64 y1, .int .i64 y2, .int .i64 y3, .int .i64 y4]).drew hG1 (by simp [Value.ownBlock])) | (have hL := Blk.grown ((Blk.new w3 40 #[.int .i64 y0, .int .i64 y1, .int .i64 y2, .int .i64 y3, .int .i64 y4]).alloc (.cells #[] 40)).drew hG1 (by simp [Value.ownBlock])) | skip)) | (refine step_app_src isI isI_one elt_Rule' rfl _ _ rfl _ w3.heap.size (.slice A5 (m - 1) c5) (m - 1) rfl ⟨w4.heap.size, 0, none⟩ 1 1 rfl (src_blk (Blk.new w4 _ _) : _) (by with_reducible (repeat (first | exact hP1 | apply OwnP.alloc | apply OwnP.drew))) ?_ ?_ ?_ ?_; omega; omega; (have h1 := World.grownBy.size hG1; simp [size_drew] at h1 ⊢; omega); intro v2 w5 hQ hG2; have hO3 := OwnP.far (by with_reducible (repeat (first | exact hO3 | apply OwnP.alloc | apply OwnP.drew))) hG2 (ne_rows hlt3 (fun k hk => (hP1.lt k hk).1)); have hb5 := below_gr2 (w := w) (by (with_reducible (repeat (first | exact Below.refl _ _ | assumption | apply below_alloc | apply below_drewN | apply below_drew | (refine below_step ?_ (by assumption)))))) hG2 (fun k hk => Nat.le_trans hb30.size (hP1.lt k hk).1); have z0 := cell_gr (a := ⟨b, 0, none⟩) hG2 (by with_reducible (repeat (first | exact z0 | apply cell_alloc | apply cell_drew))) (ne_rows' hlt3 hP1.lt rfl); have z1 := cell_gr (a := ⟨b, 1, none⟩) hG2 (by with_reducible (repeat (first | exact z1 | apply cell_alloc | apply cell_drew))) (ne_rows' hlt3 hP1.lt rfl); have z2 := cell_gr (a := ⟨b, 2, none⟩) hG2 (by with_reducible (repeat (first | exact z2 | apply cell_alloc | apply cell_drew))) (ne_rows' hlt3 hP1.lt rfl); have z3 := cell_gr (a := ⟨b, 3, none⟩) hG2 (by with_reducible (repeat (first | exact z3 | apply cell_alloc | apply cell_drew))) (ne_rows' hlt3 hP1.lt rfl); have z4 := cell_gr (a := ⟨b, 4, none⟩) hG2 (by with_reducible (repeat (first | exact z4 | apply cell_alloc | apply cell_drew))) (ne_rows' hlt3 hP1.lt rfl)) | (refine step_app_src isI isI_one elt_Rule' rfl _ _ rfl _ w3.heap.size (.slice A5 (m - 1) c5) (m - 1) rfl ⟨(w3.heap.size + 1), 0, none⟩ 1 1 rfl (src_blk hL : _) (by with_reducible (repeat (first | exact hP1 | apply OwnP.alloc | apply OwnP.drew))) ?_ ?_ ?_ ?_; omega; omega; (have h1 := World.grownBy.size hG1; simp [size_drew] at h1 ⊢; omega); intro v2 w5 hQ hG2; have hO3 := OwnP.far (by with_reducible (repeat (first | exact hO3 | apply OwnP.alloc | apply OwnP.drew))) hG2 (ne_rows hlt3 (fun k hk => (hP1.lt k hk).1)); have hb5 := below_gr2 (w := w) (by (with_reducible (repeat (first | exact Below.refl _ _ | assumption | apply below_alloc | apply below_drewN | apply below_drew | (refine below_step ?_ (by assumption)))))) hG2 (fun k hk => Nat.le_trans hb30.size (hP1.lt k hk).1); have z0 := cell_gr (a := ⟨b, 0, none⟩) hG2 (by with_reducible (repeat (first | exact z0 | apply cell_alloc | apply cell_drew))) (ne_rows' hlt3 hP1.lt rfl); have z1 := cell_gr (a := ⟨b, 1, none⟩) hG2 (by with_reducible (repeat (first | exact z1 | apply cell_alloc | apply cell_drew))) (ne_rows' hlt3 hP1.lt rfl); have z2 := cell_gr (a := ⟨b, 2, none⟩) hG2 (by with_reducible (repeat (first | exact z2 | apply cell_alloc | apply cell_drew))) (ne_rows' hlt3 hP1.lt rfl); have z3 := cell_gr (a := ⟨b, 3, none⟩) hG2 (by with_reducible (repeat (first | exact z3 | apply cell_alloc | apply cell_drew))) (ne_rows' hlt3 hP1.lt rfl); have z4 := cell_gr (a := ⟨b, 4, none⟩) hG2 (by with_reducible (repeat (first | exact z4 | apply cell_alloc | apply cell_drew))) (ne_rows' hlt3 hP1.lt rfl)) | (refine step_app_src isI isI_one elt_Rule' rfl _ _ rfl _ w3.heap.size (.slice A5 (m - 1) c5) (m - 1) rfl ⟨w3.heap.size, 0, none⟩ 1 1 rfl (src_blk hL : _) (by with_reducible (repeat (first | exact hP1 | apply OwnP.alloc | apply OwnP.drew))) ?_ ?_ ?_ ?_; omega; omega; (have h1 := World.grownBy.size hG1; simp [size_drew] at h1 ⊢; omega); intro v2 w5 hQ hG2; have hO3 := OwnP.far (by with_reducible (repeat (first | exact hO3 | apply OwnP.alloc | apply OwnP.drew))) hG2 (ne_rows hlt3 (fun k hk => (hP1.lt k hk).1)); have hb5 := below_gr2 (w := w) (by (with_reducible (repeat (first | exact Below.refl _ _ | assumption | apply below_alloc | apply below_drewN | apply below_drew | (refine below_step ?_ (by assumption)))))) hG2 (fun k hk => Nat.le_trans hb30.size (hP1.lt k hk).1); have z0 := cell_gr (a := ⟨b, 0, none⟩) hG2 (by with_reducible (repeat (first | exact z0 | apply cell_alloc | apply cell_drew))) (ne_rows' hlt3 hP1.lt rfl); have z1 := cell_gr (a := ⟨b, 1, none⟩) hG2 (by with_reducible (repeat (first | exact z1 | apply cell_alloc | apply cell_drew))) (ne_rows' hlt3 hP1.lt rfl); have z2 := cell_gr (a := ⟨b, 2, none⟩) hG2 (by with_reducible (repeat (first | exact z2 | apply cell_alloc | apply cell_drew))) (ne_rows' hlt3 hP1.lt rfl); have z3 := cell_gr (a := ⟨b, 3, none⟩) hG2 (by with_reducible (repeat (first | exact z3 | apply cell_alloc | apply cell_drew))) (ne_rows' hlt3 hP1.lt rfl); have z4 := cell_gr (a := ⟨b, 4, none⟩) hG2 (by with_reducible (repeat (first | exact z4 | apply cell_alloc | apply cell_drew))) (ne_rows' hlt3 hP1.lt rfl)))
      all_goals
        go_wp2_with fail
        go_ret2
        exact Lists.mk' hO3 hQ (by omega) (by omega) hb5
    · have hd : decide ((m : Int) > 1) = false := by simp; omega
      go_wp2_with (go_at_call 12; ((with_reducible refine (c_l20Few _ _ _ _ hR3 ?_).mono ?_); omega; rintro e w4 ⟨A4, m4, c4, rfl, hO4, hm4, hR4, hF4⟩; have hb4 := below_rd hb3 hg hF4; have hO4' := hO3.gr hF4 hgl))
      go_ret2
      exact Lists.mk' hO4' hO4 (by omega) (by omega) hb4
  · go_wp2_with (go_at_call 12; ((with_reducible refine (c_l20Few _ _ _ _ hR3 ?_).mono ?_); omega; rintro e w4 ⟨A4, m4, c4, rfl, hO4, hm4, hR4, hF4⟩; have hb4 := below_rd hb3 hg hF4; have hO4' := hO3.gr hF4 hgl))
    go_ret2
    exact Lists.mk' hO4' hO4 (by omega) (by omega) hb4
end Go.Proofs.YtlofelnfcdbedaaGreat.S
