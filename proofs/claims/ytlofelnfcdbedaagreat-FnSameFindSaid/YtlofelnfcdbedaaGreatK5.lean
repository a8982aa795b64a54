/- The reference's lines of ops: they answer. -/
import Derived.Test.YtlofelnfcdbedaaGreatK4
import Derived.Lib.QuietBelow
namespace Go.Proofs.YtlofelnfcdbedaaGreat.S
open Go.RowKit Go.BigFrame Go.Sort
set_option linter.unusedVariables false
set_option linter.unusedSimpArgs false


set_option maxRecDepth 100000 in
theorem c_l1InsOk (op dst src off imm sz : Int) (w : World) : Calls Tryz.prog 77 #[.agg #[.int .i64 op, .int .i64 dst, .int .i64 src, .int .i64 off, .int .i64 imm, .int .i64 sz]] w fun e w' => e = .returned (.bool (insB ⟨op, dst, src, off, imm, sz⟩)) ∧ Below w.heap.size w w' := by
  go_enter Tryz.func77, Tryz.ntmps77
  go_wp2_with (first | (go_at_call 46; refine (c_l1In _ _ _ _).mono ?_; rintro e w' ⟨rfl, rfl⟩) | (go_at_call 103; (with_reducible refine (c_l1Bare _ _ _ _ _ _ _).mono ?_); rintro e w' ⟨rfl, hbB⟩) | fail)
  all_goals
    go_ret
    refine ⟨ret_bool ?_, by (with_reducible (repeat (first | exact Below.refl _ _ | assumption | apply below_alloc | apply below_drewN | apply below_drew | (refine below_step ?_ (by assumption)))))⟩
    first | (simp [insB, *]; done) | skip

theorem c_l1Reg (src imm : Int) (w : World) (h1 : -1 ≤ src) (h2 : src ≤ 4294967296) (h3 : -4294967296 ≤ imm) (h4 : imm ≤ 4294967296) : Calls Tryz.prog 104 #[.int .i64 src, .int .i64 imm] w fun e w' => e = .returned (.string (regS src imm)) ∧ Below w.heap.size w w' := by
  have s1 := itoa_len src (by omega) (by omega)
  unfold regS
  go_enter Tryz.func104, Tryz.ntmps104
  go_wp2_with (first | (go_at_call 97; (with_reducible refine (c_l1Dec _ _ ?_ ?_).mono ?_); omega; omega; rintro e w' ⟨rfl, hb⟩) | fail)
  all_goals
    go_ret
    refine ⟨?_, by (with_reducible (repeat (first | exact Below.refl _ _ | assumption | apply below_alloc | apply below_drewN | apply below_drew | (refine below_step ?_ (by assumption)))))⟩
  all_goals rfl
set_option maxRecDepth 100000 in
set_option maxHeartbeats 2000000 in
theorem c_l1Line (op dst src off imm sz : Int) (w : World) (h : insB ⟨op, dst, src, off, imm, sz⟩ = true) : Calls Tryz.prog 78 #[.agg #[.int .i64 op, .int .i64 dst, .int .i64 src, .int .i64 off, .int .i64 imm, .int .i64 sz]] w (SomeStr 200 w) := by
  obtain ⟨hd0, hd1, hs0, hs1, ho0, ho1, hi0, hi1, hp0, hp1, hz0, hz1, hc, hl⟩ := insB_of h
  have s1 := itoa_len dst (by omega) (by omega)
  have s2 := itoa_len off (by omega) (by omega)
  have s3 := itoa_len sz (by omega) (by omega)
  have s4 := itoa_len src (by omega) (by omega)
  have s5 := regS_len src imm (by omega) (by omega) (by omega) (by omega)
  clear h
  have hX := (Blk.new w 85 #[.int .i64 op, .int .i64 dst, .int .i64 src, .int .i64 off, .int .i64 imm, .int .i64 sz]).drew
  have hB0 := below_drew (below_new w (.cells #[.int .i64 op, .int .i64 dst, .int .i64 src, .int .i64 off, .int .i64 imm, .int .i64 sz] 85))
  go_enter Tryz.func78, Tryz.ntmps78
  go_wp2_with fail
  go_region_with (go_at_call 96; refine (c_l1Words _).mono ?_; rintro e w' ⟨b, c, rfl, hO, hb⟩; have hX := hX.bl hb; have hB0 := below_step hB0 hb; obtain ⟨c0, c1, c2, c3, c4, c5⟩ := hX.cells6; obtain ⟨s, hs, hcs⟩ := hO.cellS op.toNat (by omega))
  all_goals
    go_wp2_with (first | (go_at_call 97; (with_reducible refine (c_l1Dec _ _ ?_ ?_).mono ?_); omega; omega; rintro e w' ⟨rfl, hb⟩; have hX := hX.bl hb; have hB0 := below_step hB0 hb; obtain ⟨c0, c1, c2, c3, c4, c5⟩ := hX.cells6) | (first | (go_at_call 98; (with_reducible refine (c_l1Alu _ _).mono ?_); rintro e w' ⟨rfl, rfl⟩) | (go_at_call 99; (with_reducible refine (c_l1Jump _ _).mono ?_); rintro e w' ⟨rfl, rfl⟩) | (go_at_call 104; (with_reducible refine (c_l1Reg _ _ _ ?_ ?_ ?_ ?_).mono ?_); omega; omega; omega; omega; rintro e w' ⟨rfl, hbG⟩) | fail))
  all_goals
    first
      | (go_ret
         exact ⟨_, rfl, by (try simp only [ByteArray.size_append, lsz1, lsz2]); omega, by (with_reducible (repeat (first | exact Below.refl _ _ | assumption | apply below_alloc | apply below_drewN | apply below_drew | (refine below_step ?_ (by assumption)))))⟩)
      | (have hl := hX.later
         obtain ⟨s6, hs6, hcs6⟩ : ∃ s6 : ByteArray, s6.size ≤ 200 ∧ s6 = s := ⟨s, by omega, rfl⟩
         clear hcs6
         refine wp_region_quiet_below (by kernel_rfl) (by kernel_rfl) ?_; (repeat (go_big_quiet_step ((first | (go_at_call 97; exact Calls.regrown_of (c_l1Dec _ _ (by omega) (by omega))) | (go_at_call 104; exact Calls.regrown_of (c_l1Reg _ _ _ (by omega) (by omega) (by omega) (by omega))))))); refine wpQuiet_nil ?_; intro _ hw'; obtain ⟨⟨nd, no⟩, hw''⟩ := hw'; subst hw''
         go_wp2
         go_ret
         exact ⟨_, rfl, by (try simp only [ByteArray.size_append, lsz1, lsz2]); omega, below_step hB0 (below_regrown _ _ _)⟩)
      | (have he : op = 19 := by simpa using ‹(op == 19) = true›
         obtain ⟨hi2, hi3⟩ := hc he
         have hX := hX.drew
         have hB0 := below_drew hB0
         go_region_with (go_at_call 102; refine (c_l1Calls _).mono ?_; rintro e w' ⟨b, c, rfl, hO, hb⟩; have hX := hX.bl hb; have hB0 := below_step hB0 hb; obtain ⟨c0, c1, c2, c3, c4, c5⟩ := hX.cells6; obtain ⟨s7, hs7, hcs7⟩ := hO.cellS imm.toNat (by omega))
         all_goals
           go_wp2
           go_ret
           exact ⟨_, rfl, by (try simp only [ByteArray.size_append, lsz1, lsz2]); omega, hB0⟩)

end Go.Proofs.YtlofelnfcdbedaaGreat.S
