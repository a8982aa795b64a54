/- The reference cuts a text, and reads an op's line: it answers. The reference reads an op's line: the parts. -/
import Derived.Test.YtlofelnfcdbedaaGreatK5
namespace Go.Proofs.YtlofelnfcdbedaaGreat.S
open Go.RowKit Go.BigFrame Go.Sort
set_option linter.unusedVariables false
set_option linter.unusedSimpArgs false

set_option maxRecDepth 100000 in
set_option maxHeartbeats 1000000 in
theorem c_l1Cut (s : ByteArray) (b most : Int) (K : Nat) (w : World) (hs : s.size ≤ K) (hK : K ≤ 1000) (hm : 0 ≤ most) (hm' : most ≤ 50) : Calls Tryz.prog 76 #[.string s, .int .u8 b, .int .i64 most] w (Cut K w) := by
  have hsub : ∀ (i j : Nat), j ≤ s.size → isS K (.string (s.extract i j)) := fun i j h => ⟨_, rfl, by rw [ByteArray.size_extract]; omega⟩
  have hS := Lib.hid hsub
  clear hsub
  go_enter Tryz.func76, Tryz.ntmps76
  go_wp2
  go_loopw [7, 8, 9] (fun v f i wr => ∃ (n k q : Nat), i = .int .i64 k ∧ f = .int .i64 q ∧ q ≤ k ∧ k ≤ s.size ∧ n ≤ 60 ∧ (n : Int) ≤ most ∧ OwnP (isS K) wr w.heap.size 9 1 v n ∧ Below w.heap.size w wr) (fun _ _ i _ => s.size - (intOf i).toNat)
  case atStart => exact ⟨0, 0, 0, rfl, rfl, by omega, by omega, by omega, by omega, OwnP.empty _ w _ _ _ (Nat.le_refl _), below_new _ _⟩
  case round =>
    obtain ⟨n, k, q, rfl, rfl, hq, hk, hn, hn2, hO, hB⟩ := hrel
    obtain ⟨A, c, rfl, hc⟩ := hO.shape
    go_wp2_with (at_builtin; (with_reducible refine app_p (isS K) isS_one elt_string rfl _ _ rfl _ _ _ w.heap.size (.slice A n c) n rfl _ _ _ rfl ?_ ?_ ?_ hO ?_ ?_ hB.size ?_); simp; rfl; (intro u hu; simp at hu; subst hu; exact hS.out _ _ (by omega)); omega; omega; intro v' w' hO' hG')
    · exact ⟨⟨n + 1, k + 1, k + 1, by go_num, by go_num, by omega, by omega, by omega, by omega, hO', below_app hB hO hG'⟩, by simp [intOf]; omega⟩
    · exact ⟨⟨n, k + 1, q, by go_num, rfl, by omega, by omega, by omega, by omega, hO, hB⟩, by simp [intOf]; omega⟩
    all_goals
      go_ret
      exact ⟨_, n + 1, rfl, by omega, by omega, hO', below_app hB hO hG'⟩

theorem res_read {W' : World} {g : Nat} {a b c d e f : Int} (tmps : Array Value) (ht : tmps[2]? = some (.pointer (some ⟨g, 0, none⟩))) (h : Blk W' g 85 #[.int .i64 a, .int .i64 b, .int .i64 c, .int .i64 d, .int .i64 e, .int .i64 f]) : (results Tryz.f75 tmps).run Tryz.prog W' = .ok (In.v ⟨a, b, c, d, e, f⟩) W' := by
  obtain ⟨h0, h1, h2, h3, h4, h5⟩ := h.cells6
  have hr : (Tryz.f75).results = #[.cell 2 85] := rfl
  simp [results, hr, ht, go_sem, h0, h1, h2, h3, h4, h5, In.v]
theorem Reading.ended {w W : World} {g3 : Nat} (h : Reading w w.heap.size g3 W) (a b c d e f : Int) (tmps : Array Value) (ht : tmps[2]? = some (.pointer (some ⟨w.heap.size, 0, none⟩))) : bodyPost Tryz.prog Tryz.f75 (SomeIns w) .ret { tmps := tmps, defers := [] } ((((((W.setCell ⟨w.heap.size, 0, none⟩ (.int .i64 a)).setCell ⟨w.heap.size, 1, none⟩ (.int .i64 b)).setCell ⟨w.heap.size, 2, none⟩ (.int .i64 c)).setCell ⟨w.heap.size, 3, none⟩ (.int .i64 d)).setCell ⟨w.heap.size, 4, none⟩ (.int .i64 e)).setCell ⟨w.heap.size, 5, none⟩ (.int .i64 f)) := by
  obtain ⟨a', b', c', d', e', f', h2⟩ := h.2.1
  have h2 := ((((((h2.set_ 0 (.int .i64 a)).set_ 1 (.int .i64 b)).set_ 2 (.int .i64 c)).set_ 3 (.int .i64 d)).set_ 4 (.int .i64 e)).set_ 5 (.int .i64 f))
  have hn := Nat.le_refl w.heap.size
  exact bodyPost_ret (res_read tmps ht h2) rfl ⟨_, rfl, below_set (below_set (below_set (below_set (below_set (below_set h.2.2.2.2.2 hn _) hn _) hn _) hn _) hn _) hn _⟩
end Go.Proofs.YtlofelnfcdbedaaGreat.S
namespace Go.Proofs.YtlofelnfcdbedaaGreat.S
open Go.RowKit Go.BigFrame Go.Sort
set_option linter.unusedVariables false
set_option linter.unusedSimpArgs false

def cdIn : Code → Code
  | .block _ b => b
  | .loop b => b
  | c => c
def cdYes : Code → Code
  | .cond _ a _ => a
  | c => c
def cdNo : Code → Code
  | .cond _ _ b => b
  | c => c
noncomputable def rdAll : Code := (Tryz.f75).body.getD .skip
noncomputable def rd9c : Code := cdIn (cd1 (cd2 (cd2 (cd2 (cd2 rdAll)))))
noncomputable def rd17c : Code := cdNo (cd2 rd9c)
noncomputable def rd19c : Code := cdNo (cd2 rd17c)
noncomputable def rd25c : Code := cdNo (cd2 rd19c)
noncomputable def rd32c : Code := cdNo (cd2 rd25c)
noncomputable def rdRoundc : Code := cdIn (cdIn (cd2 (cd1 (cd2 (cd2 rdAll)))))
noncomputable def rd6c : Code := cdYes (cd2 (cdIn (cd1 (cd2 rdRoundc))))
set_option maxRecDepth 100000 in
set_option maxHeartbeats 4000000 in
theorem rd32 {b n c g3 K : Nat} {v1 v4 v6 v7 v8 v9 v10 v11 v12 v13 v14 v15 v16 v17 v18 v19 v20 v21 v22 v23 v24 v25 v26 v27 v28 v29 v30 v31 v32 v33 v34 v35 v36 v37 v38 v39 v40 v41 v42 v43 v44 v45 v46 v47 v48 v49 v50 v51 v52 v53 v54 v55 v56 v57 v58 v59 v60 v61 v62 v63 v64 v65 v66 v67 v68 v69 v70 v71 v72 v73 v74 v75 v76 v77 v78 v79 v80 v81 v82 v83 v84 v85 v86 v87 v88 v89 v90 v91 v92 v93 v94 v95 v96 v97 v98 v99 v100 v101 v102 v103 v104 v105 v106 v107 v108 v109 v110 v111 v112 v113 v114 v115 v116 v117 v118 v119 v120 v121 v122 v123 v124 v125 v126 v127 v128 v129 v130 v131 v132 v133 v134 v135 v136 v137 v138 v139 v140 v141 v142 v143 v144 v145 v146 v147 v148 v149 v150 v151 v152 v153 v154 v155 v156 v157 v158 v159 v160 v161 v162 v163 v164 v165 v166 v167 v168 v169 v170 v171 v172 v173 v174 v175 v176 v177 v178 v179 v180 v181 v182 v183 v184 v185 v186 v187 v188 v189 v190 v191 v192 v193 v194 v195 : Value} {w W : World} {K0 : Act → World → Prop} {Post : Ending → World → Prop} (hO : OwnP (isS K) w 0 9 1 (.slice (some ⟨b, 0, none⟩) n c) n) (hn : 1 ≤ n) (hn' : n ≤ 100) (hK : K ≤ 1000) (hR : Reading w w.heap.size g3 W)  (hQ : ∀ (u181 u182 u183 u184 u185 u186 u187 u188 u189 u190 u191 u192 u193 u194 : Value) (W' : World), Reading w w.heap.size g3 W' → K0 ⟨List.toArray ((.slice (some ⟨b, 0, none⟩) n c) :: v1 :: (.pointer (some ⟨w.heap.size, 0, none⟩)) :: (.pointer (some ⟨g3, 0, none⟩)) :: v4 :: (.int .i64 n) :: v6 :: v7 :: v8 :: v9 :: v10 :: v11 :: v12 :: v13 :: v14 :: v15 :: v16 :: v17 :: v18 :: v19 :: v20 :: v21 :: v22 :: v23 :: v24 :: v25 :: v26 :: v27 :: v28 :: v29 :: v30 :: v31 :: v32 :: v33 :: v34 :: v35 :: v36 :: v37 :: v38 :: v39 :: v40 :: v41 :: v42 :: v43 :: v44 :: v45 :: v46 :: v47 :: v48 :: v49 :: v50 :: v51 :: v52 :: v53 :: v54 :: v55 :: v56 :: v57 :: v58 :: v59 :: v60 :: v61 :: v62 :: v63 :: v64 :: v65 :: v66 :: v67 :: v68 :: v69 :: v70 :: v71 :: v72 :: v73 :: v74 :: v75 :: v76 :: v77 :: v78 :: v79 :: v80 :: v81 :: v82 :: v83 :: v84 :: v85 :: v86 :: v87 :: v88 :: v89 :: v90 :: v91 :: v92 :: v93 :: v94 :: v95 :: v96 :: v97 :: v98 :: v99 :: v100 :: v101 :: v102 :: v103 :: v104 :: v105 :: v106 :: v107 :: v108 :: v109 :: v110 :: v111 :: v112 :: v113 :: v114 :: v115 :: v116 :: v117 :: v118 :: v119 :: v120 :: v121 :: v122 :: v123 :: v124 :: v125 :: v126 :: v127 :: v128 :: v129 :: v130 :: v131 :: v132 :: v133 :: v134 :: v135 :: v136 :: v137 :: v138 :: v139 :: v140 :: v141 :: v142 :: v143 :: v144 :: v145 :: v146 :: v147 :: v148 :: v149 :: v150 :: v151 :: v152 :: v153 :: v154 :: v155 :: v156 :: v157 :: v158 :: v159 :: v160 :: v161 :: v162 :: v163 :: v164 :: v165 :: v166 :: v167 :: v168 :: v169 :: v170 :: v171 :: v172 :: v173 :: v174 :: v175 :: v176 :: v177 :: v178 :: v179 :: v180 :: u181 :: u182 :: u183 :: u184 :: u185 :: u186 :: u187 :: u188 :: u189 :: u190 :: u191 :: u192 :: u193 :: u194 :: v195 :: []), []⟩ W') : Code.wp Tryz.prog rd32c (Exit.then K0 (bodyPost Tryz.prog Tryz.f75 Post)) ⟨List.toArray ((.slice (some ⟨b, 0, none⟩) n c) :: v1 :: (.pointer (some ⟨w.heap.size, 0, none⟩)) :: (.pointer (some ⟨g3, 0, none⟩)) :: v4 :: (.int .i64 n) :: v6 :: v7 :: v8 :: v9 :: v10 :: v11 :: v12 :: v13 :: v14 :: v15 :: v16 :: v17 :: v18 :: v19 :: v20 :: v21 :: v22 :: v23 :: v24 :: v25 :: v26 :: v27 :: v28 :: v29 :: v30 :: v31 :: v32 :: v33 :: v34 :: v35 :: v36 :: v37 :: v38 :: v39 :: v40 :: v41 :: v42 :: v43 :: v44 :: v45 :: v46 :: v47 :: v48 :: v49 :: v50 :: v51 :: v52 :: v53 :: v54 :: v55 :: v56 :: v57 :: v58 :: v59 :: v60 :: v61 :: v62 :: v63 :: v64 :: v65 :: v66 :: v67 :: v68 :: v69 :: v70 :: v71 :: v72 :: v73 :: v74 :: v75 :: v76 :: v77 :: v78 :: v79 :: v80 :: v81 :: v82 :: v83 :: v84 :: v85 :: v86 :: v87 :: v88 :: v89 :: v90 :: v91 :: v92 :: v93 :: v94 :: v95 :: v96 :: v97 :: v98 :: v99 :: v100 :: v101 :: v102 :: v103 :: v104 :: v105 :: v106 :: v107 :: v108 :: v109 :: v110 :: v111 :: v112 :: v113 :: v114 :: v115 :: v116 :: v117 :: v118 :: v119 :: v120 :: v121 :: v122 :: v123 :: v124 :: v125 :: v126 :: v127 :: v128 :: v129 :: v130 :: v131 :: v132 :: v133 :: v134 :: v135 :: v136 :: v137 :: v138 :: v139 :: v140 :: v141 :: v142 :: v143 :: v144 :: v145 :: v146 :: v147 :: v148 :: v149 :: v150 :: v151 :: v152 :: v153 :: v154 :: v155 :: v156 :: v157 :: v158 :: v159 :: v160 :: v161 :: v162 :: v163 :: v164 :: v165 :: v166 :: v167 :: v168 :: v169 :: v170 :: v171 :: v172 :: v173 :: v174 :: v175 :: v176 :: v177 :: v178 :: v179 :: v180 :: v181 :: v182 :: v183 :: v184 :: v185 :: v186 :: v187 :: v188 :: v189 :: v190 :: v191 :: v192 :: v193 :: v194 :: v195 :: []), []⟩ W := by
  replace hQ := Lib.hid hQ
  obtain ⟨a0, a1, a2, a3, a4, a5, hI⟩ := hR.1
  obtain ⟨z0, z1, z2, z3, z4, z5⟩ := hI.cells6
  have zf := hI.frozen
  have hge := hR.2.2.2.2.1
  have hnz : (0 : Int) < (n : Int) := by omega
  have hnn : 0 < n := by omega
  conv => arg 2; whnf
  have ne1 : ¬ g3 = b := by
    obtain ⟨s0, hs0, h0⟩ := hO.cellS 0 (by omega)
    have hb1 : b < w.heap.size := World.block_lt_of_cell? w _ h0
    omega
  by_cases n2 : n = 2
  · subst n2
    obtain ⟨s1, hs1, h1⟩ := hO.cellS 1 (by omega)
    have q1 := cell_below hR.2.2.2.2.2 _ _ h1
    clear h1 hO
    go_upto_region 33 with fail
    all_goals first
      | (apply hQ.out; exact hR)
      | skip
    have hR := hR.drew
    have hI := hI.drew
    have q1 := cell_drew q1
    go_region_with (first | (go_at_call 102; (with_reducible refine (c_l1Calls _).mono ?_); rintro e w1 ⟨b1, c1, rfl, hO1, hb1⟩; have hR := hR.bl hb1; have hI := hI.bl hb1; obtain ⟨y0, y1, y2, y3, y4, y5⟩ := hI.cells6; have yf := hI.frozen; have hz1 := cell_below hb1 ⟨b, 1, none⟩ _ q1; have hr := hO1.reads) | (go_at_call 95; (with_reducible refine (c_l1Find _ _ _ _ _ _ (by with_reducible assumption) ?_).mono ?_); omega; rintro e w' ⟨r, rfl, hf0, hf1, rfl⟩))
    all_goals
      go_wp2_with fail
      apply hQ.out
      with_reducible exact hR.set 4 _
  · have m2 : ((n : Int) == 2) = false := by simp; omega
    go_wp2_with fail
    all_goals
      apply hQ.out
      exact hR
set_option maxRecDepth 100000 in
set_option maxHeartbeats 4000000 in
theorem rd25 {b n c g3 K : Nat} {v1 v4 v6 v7 v8 v9 v10 v11 v12 v13 v14 v15 v16 v17 v18 v19 v20 v21 v22 v23 v24 v25 v26 v27 v28 v29 v30 v31 v32 v33 v34 v35 v36 v37 v38 v39 v40 v41 v42 v43 v44 v45 v46 v47 v48 v49 v50 v51 v52 v53 v54 v55 v56 v57 v58 v59 v60 v61 v62 v63 v64 v65 v66 v67 v68 v69 v70 v71 v72 v73 v74 v75 v76 v77 v78 v79 v80 v81 v82 v83 v84 v85 v86 v87 v88 v89 v90 v91 v92 v93 v94 v95 v96 v97 v98 v99 v100 v101 v102 v103 v104 v105 v106 v107 v108 v109 v110 v111 v112 v113 v114 v115 v116 v117 v118 v119 v120 v121 v122 v123 v124 v125 v126 v127 v128 v129 v130 v131 v132 v133 v134 v135 v136 v137 v138 v139 v140 v141 v142 v143 v144 v145 v146 v147 v148 v149 v150 v151 v152 v153 v154 v155 v156 v157 v158 v159 v160 v161 v162 v163 v164 v165 v166 v167 v168 v169 v170 v171 v172 v173 v174 v175 v176 v177 v178 v179 v180 v181 v182 v183 v184 v185 v186 v187 v188 v189 v190 v191 v192 v193 v194 v195 : Value} {w W : World} {K0 : Act → World → Prop} {Post : Ending → World → Prop} (hO : OwnP (isS K) w 0 9 1 (.slice (some ⟨b, 0, none⟩) n c) n) (hn : 1 ≤ n) (hn' : n ≤ 100) (hK : K ≤ 1000) (hR : Reading w w.heap.size g3 W)  (hQ : ∀ (u14 u15 u16 u17 u148 u149 u150 u151 u152 u153 u154 u155 u156 u157 u158 u159 u160 u161 u162 u163 u164 u165 u166 u167 u168 u169 u170 u171 u172 u173 u174 u175 u176 u177 u178 u179 u180 u181 u182 u183 u184 u185 u186 u187 u188 u189 u190 u191 u192 u193 u194 : Value) (W' : World), Reading w w.heap.size g3 W' → K0 ⟨List.toArray ((.slice (some ⟨b, 0, none⟩) n c) :: v1 :: (.pointer (some ⟨w.heap.size, 0, none⟩)) :: (.pointer (some ⟨g3, 0, none⟩)) :: v4 :: (.int .i64 n) :: v6 :: v7 :: v8 :: v9 :: v10 :: v11 :: v12 :: v13 :: u14 :: u15 :: u16 :: u17 :: v18 :: v19 :: v20 :: v21 :: v22 :: v23 :: v24 :: v25 :: v26 :: v27 :: v28 :: v29 :: v30 :: v31 :: v32 :: v33 :: v34 :: v35 :: v36 :: v37 :: v38 :: v39 :: v40 :: v41 :: v42 :: v43 :: v44 :: v45 :: v46 :: v47 :: v48 :: v49 :: v50 :: v51 :: v52 :: v53 :: v54 :: v55 :: v56 :: v57 :: v58 :: v59 :: v60 :: v61 :: v62 :: v63 :: v64 :: v65 :: v66 :: v67 :: v68 :: v69 :: v70 :: v71 :: v72 :: v73 :: v74 :: v75 :: v76 :: v77 :: v78 :: v79 :: v80 :: v81 :: v82 :: v83 :: v84 :: v85 :: v86 :: v87 :: v88 :: v89 :: v90 :: v91 :: v92 :: v93 :: v94 :: v95 :: v96 :: v97 :: v98 :: v99 :: v100 :: v101 :: v102 :: v103 :: v104 :: v105 :: v106 :: v107 :: v108 :: v109 :: v110 :: v111 :: v112 :: v113 :: v114 :: v115 :: v116 :: v117 :: v118 :: v119 :: v120 :: v121 :: v122 :: v123 :: v124 :: v125 :: v126 :: v127 :: v128 :: v129 :: v130 :: v131 :: v132 :: v133 :: v134 :: v135 :: v136 :: v137 :: v138 :: v139 :: v140 :: v141 :: v142 :: v143 :: v144 :: v145 :: v146 :: v147 :: u148 :: u149 :: u150 :: u151 :: u152 :: u153 :: u154 :: u155 :: u156 :: u157 :: u158 :: u159 :: u160 :: u161 :: u162 :: u163 :: u164 :: u165 :: u166 :: u167 :: u168 :: u169 :: u170 :: u171 :: u172 :: u173 :: u174 :: u175 :: u176 :: u177 :: u178 :: u179 :: u180 :: u181 :: u182 :: u183 :: u184 :: u185 :: u186 :: u187 :: u188 :: u189 :: u190 :: u191 :: u192 :: u193 :: u194 :: v195 :: []), []⟩ W') : Code.wp Tryz.prog rd25c (Exit.then K0 (bodyPost Tryz.prog Tryz.f75 Post)) ⟨List.toArray ((.slice (some ⟨b, 0, none⟩) n c) :: v1 :: (.pointer (some ⟨w.heap.size, 0, none⟩)) :: (.pointer (some ⟨g3, 0, none⟩)) :: v4 :: (.int .i64 n) :: v6 :: v7 :: v8 :: v9 :: v10 :: v11 :: v12 :: v13 :: v14 :: v15 :: v16 :: v17 :: v18 :: v19 :: v20 :: v21 :: v22 :: v23 :: v24 :: v25 :: v26 :: v27 :: v28 :: v29 :: v30 :: v31 :: v32 :: v33 :: v34 :: v35 :: v36 :: v37 :: v38 :: v39 :: v40 :: v41 :: v42 :: v43 :: v44 :: v45 :: v46 :: v47 :: v48 :: v49 :: v50 :: v51 :: v52 :: v53 :: v54 :: v55 :: v56 :: v57 :: v58 :: v59 :: v60 :: v61 :: v62 :: v63 :: v64 :: v65 :: v66 :: v67 :: v68 :: v69 :: v70 :: v71 :: v72 :: v73 :: v74 :: v75 :: v76 :: v77 :: v78 :: v79 :: v80 :: v81 :: v82 :: v83 :: v84 :: v85 :: v86 :: v87 :: v88 :: v89 :: v90 :: v91 :: v92 :: v93 :: v94 :: v95 :: v96 :: v97 :: v98 :: v99 :: v100 :: v101 :: v102 :: v103 :: v104 :: v105 :: v106 :: v107 :: v108 :: v109 :: v110 :: v111 :: v112 :: v113 :: v114 :: v115 :: v116 :: v117 :: v118 :: v119 :: v120 :: v121 :: v122 :: v123 :: v124 :: v125 :: v126 :: v127 :: v128 :: v129 :: v130 :: v131 :: v132 :: v133 :: v134 :: v135 :: v136 :: v137 :: v138 :: v139 :: v140 :: v141 :: v142 :: v143 :: v144 :: v145 :: v146 :: v147 :: v148 :: v149 :: v150 :: v151 :: v152 :: v153 :: v154 :: v155 :: v156 :: v157 :: v158 :: v159 :: v160 :: v161 :: v162 :: v163 :: v164 :: v165 :: v166 :: v167 :: v168 :: v169 :: v170 :: v171 :: v172 :: v173 :: v174 :: v175 :: v176 :: v177 :: v178 :: v179 :: v180 :: v181 :: v182 :: v183 :: v184 :: v185 :: v186 :: v187 :: v188 :: v189 :: v190 :: v191 :: v192 :: v193 :: v194 :: v195 :: []), []⟩ W := by
  replace hQ := Lib.hid hQ
  obtain ⟨a0, a1, a2, a3, a4, a5, hI⟩ := hR.1
  obtain ⟨z0, z1, z2, z3, z4, z5⟩ := hI.cells6
  have zf := hI.frozen
  have hge := hR.2.2.2.2.1
  have hnz : (0 : Int) < (n : Int) := by omega
  have hnn : 0 < n := by omega
  conv => arg 2; whnf
  have ne1 : ¬ g3 = b := by
    obtain ⟨s0, hs0, h0⟩ := hO.cellS 0 (by omega)
    have hb1 : b < w.heap.size := World.block_lt_of_cell? w _ h0
    omega
  go_upto_region 25 with fail
  go_cut [148] from 148 to 148 (fun s W1 => ∃ x : Bool, s = .bool x ∧ (x = true → n = 4) ∧ W1 = W)
  case first =>
    by_cases m : n = 4
    · have hm := m
      subst m
      go_wp2_with fail
      all_goals
        go_meet
        exact ⟨_, rfl, fun _ => hm, rfl⟩
    · have m4 : ((n : Int) == 4) = false := by simp; omega
      go_wp2_with fail
      all_goals
        go_meet
        exact ⟨_, rfl, fun h => (by cases h), rfl⟩
  case rest =>
    obtain ⟨x, rfl, hx1, hw⟩ := hcut
    obtain rfl := hw.symm
    cases x with
    | true =>
      have hm := hx1 rfl
      have hx1 := 0
      subst hm
      obtain ⟨s1, hs1, h1⟩ := hO.cellS 1 (by omega)
      have q1 := cell_below hR.2.2.2.2.2 _ _ h1
      obtain ⟨s2, hs2, h2⟩ := hO.cellS 2 (by omega)
      have q2 := cell_below hR.2.2.2.2.2 _ _ h2
      obtain ⟨s3, hs3, h3⟩ := hO.cellS 3 (by omega)
      have q3 := cell_below hR.2.2.2.2.2 _ _ h3
      clear h1 h2 h3
      go_wp2_with (first | (go_at_call 100; (with_reducible refine (c_l1ReadReg _ _ ?_).mono ?_); omega; rintro e w' ⟨r, q, rfl, hr0, hr1, hq0, hq1, rfl⟩) | (go_at_call 101; (with_reducible refine (c_l1Signed _ _ ?_).mono ?_); omega; rintro e w' ⟨r, rfl, hr0, hr1, rfl⟩) | fail)
      apply hQ.out
      with_reducible (repeat (first | exact hR | refine Reading.set ?_ _ _))
    | false =>
      go_upto_if 148 with fail
      refine wp_cond_false (by rfl) ?_
      exact rd32 hO hn hn' hK hR (by intros; apply hQ.out; assumption)
set_option maxRecDepth 100000 in
set_option maxHeartbeats 4000000 in
theorem rd19 {b n c g3 K : Nat} {v1 v4 v6 v7 v8 v9 v10 v11 v12 v13 v14 v15 v16 v17 v18 v19 v20 v21 v22 v23 v24 v25 v26 v27 v28 v29 v30 v31 v32 v33 v34 v35 v36 v37 v38 v39 v40 v41 v42 v43 v44 v45 v46 v47 v48 v49 v50 v51 v52 v53 v54 v55 v56 v57 v58 v59 v60 v61 v62 v63 v64 v65 v66 v67 v68 v69 v70 v71 v72 v73 v74 v75 v76 v77 v78 v79 v80 v81 v82 v83 v84 v85 v86 v87 v88 v89 v90 v91 v92 v93 v94 v95 v96 v97 v98 v99 v100 v101 v102 v103 v104 v105 v106 v107 v108 v109 v110 v111 v112 v113 v114 v115 v116 v117 v118 v119 v120 v121 v122 v123 v124 v125 v126 v127 v128 v129 v130 v131 v132 v133 v134 v135 v136 v137 v138 v139 v140 v141 v142 v143 v144 v145 v146 v147 v148 v149 v150 v151 v152 v153 v154 v155 v156 v157 v158 v159 v160 v161 v162 v163 v164 v165 v166 v167 v168 v169 v170 v171 v172 v173 v174 v175 v176 v177 v178 v179 v180 v181 v182 v183 v184 v185 v186 v187 v188 v189 v190 v191 v192 v193 v194 v195 : Value} {w W : World} {K0 : Act → World → Prop} {Post : Ending → World → Prop} (hO : OwnP (isS K) w 0 9 1 (.slice (some ⟨b, 0, none⟩) n c) n) (hn : 1 ≤ n) (hn' : n ≤ 100) (hK : K ≤ 1000) (hR : Reading w w.heap.size g3 W)  (hQ : ∀ (u10 u11 u12 u13 u14 u15 u16 u17 u117 u118 u119 u120 u121 u122 u123 u124 u125 u126 u127 u128 u129 u130 u131 u132 u133 u134 u135 u136 u137 u138 u139 u140 u141 u142 u143 u144 u145 u146 u147 u148 u149 u150 u151 u152 u153 u154 u155 u156 u157 u158 u159 u160 u161 u162 u163 u164 u165 u166 u167 u168 u169 u170 u171 u172 u173 u174 u175 u176 u177 u178 u179 u180 u181 u182 u183 u184 u185 u186 u187 u188 u189 u190 u191 u192 u193 u194 : Value) (W' : World), Reading w w.heap.size g3 W' → K0 ⟨List.toArray ((.slice (some ⟨b, 0, none⟩) n c) :: v1 :: (.pointer (some ⟨w.heap.size, 0, none⟩)) :: (.pointer (some ⟨g3, 0, none⟩)) :: v4 :: (.int .i64 n) :: v6 :: v7 :: v8 :: v9 :: u10 :: u11 :: u12 :: u13 :: u14 :: u15 :: u16 :: u17 :: v18 :: v19 :: v20 :: v21 :: v22 :: v23 :: v24 :: v25 :: v26 :: v27 :: v28 :: v29 :: v30 :: v31 :: v32 :: v33 :: v34 :: v35 :: v36 :: v37 :: v38 :: v39 :: v40 :: v41 :: v42 :: v43 :: v44 :: v45 :: v46 :: v47 :: v48 :: v49 :: v50 :: v51 :: v52 :: v53 :: v54 :: v55 :: v56 :: v57 :: v58 :: v59 :: v60 :: v61 :: v62 :: v63 :: v64 :: v65 :: v66 :: v67 :: v68 :: v69 :: v70 :: v71 :: v72 :: v73 :: v74 :: v75 :: v76 :: v77 :: v78 :: v79 :: v80 :: v81 :: v82 :: v83 :: v84 :: v85 :: v86 :: v87 :: v88 :: v89 :: v90 :: v91 :: v92 :: v93 :: v94 :: v95 :: v96 :: v97 :: v98 :: v99 :: v100 :: v101 :: v102 :: v103 :: v104 :: v105 :: v106 :: v107 :: v108 :: v109 :: v110 :: v111 :: v112 :: v113 :: v114 :: v115 :: v116 :: u117 :: u118 :: u119 :: u120 :: u121 :: u122 :: u123 :: u124 :: u125 :: u126 :: u127 :: u128 :: u129 :: u130 :: u131 :: u132 :: u133 :: u134 :: u135 :: u136 :: u137 :: u138 :: u139 :: u140 :: u141 :: u142 :: u143 :: u144 :: u145 :: u146 :: u147 :: u148 :: u149 :: u150 :: u151 :: u152 :: u153 :: u154 :: u155 :: u156 :: u157 :: u158 :: u159 :: u160 :: u161 :: u162 :: u163 :: u164 :: u165 :: u166 :: u167 :: u168 :: u169 :: u170 :: u171 :: u172 :: u173 :: u174 :: u175 :: u176 :: u177 :: u178 :: u179 :: u180 :: u181 :: u182 :: u183 :: u184 :: u185 :: u186 :: u187 :: u188 :: u189 :: u190 :: u191 :: u192 :: u193 :: u194 :: v195 :: []), []⟩ W') : Code.wp Tryz.prog rd19c (Exit.then K0 (bodyPost Tryz.prog Tryz.f75 Post)) ⟨List.toArray ((.slice (some ⟨b, 0, none⟩) n c) :: v1 :: (.pointer (some ⟨w.heap.size, 0, none⟩)) :: (.pointer (some ⟨g3, 0, none⟩)) :: v4 :: (.int .i64 n) :: v6 :: v7 :: v8 :: v9 :: v10 :: v11 :: v12 :: v13 :: v14 :: v15 :: v16 :: v17 :: v18 :: v19 :: v20 :: v21 :: v22 :: v23 :: v24 :: v25 :: v26 :: v27 :: v28 :: v29 :: v30 :: v31 :: v32 :: v33 :: v34 :: v35 :: v36 :: v37 :: v38 :: v39 :: v40 :: v41 :: v42 :: v43 :: v44 :: v45 :: v46 :: v47 :: v48 :: v49 :: v50 :: v51 :: v52 :: v53 :: v54 :: v55 :: v56 :: v57 :: v58 :: v59 :: v60 :: v61 :: v62 :: v63 :: v64 :: v65 :: v66 :: v67 :: v68 :: v69 :: v70 :: v71 :: v72 :: v73 :: v74 :: v75 :: v76 :: v77 :: v78 :: v79 :: v80 :: v81 :: v82 :: v83 :: v84 :: v85 :: v86 :: v87 :: v88 :: v89 :: v90 :: v91 :: v92 :: v93 :: v94 :: v95 :: v96 :: v97 :: v98 :: v99 :: v100 :: v101 :: v102 :: v103 :: v104 :: v105 :: v106 :: v107 :: v108 :: v109 :: v110 :: v111 :: v112 :: v113 :: v114 :: v115 :: v116 :: v117 :: v118 :: v119 :: v120 :: v121 :: v122 :: v123 :: v124 :: v125 :: v126 :: v127 :: v128 :: v129 :: v130 :: v131 :: v132 :: v133 :: v134 :: v135 :: v136 :: v137 :: v138 :: v139 :: v140 :: v141 :: v142 :: v143 :: v144 :: v145 :: v146 :: v147 :: v148 :: v149 :: v150 :: v151 :: v152 :: v153 :: v154 :: v155 :: v156 :: v157 :: v158 :: v159 :: v160 :: v161 :: v162 :: v163 :: v164 :: v165 :: v166 :: v167 :: v168 :: v169 :: v170 :: v171 :: v172 :: v173 :: v174 :: v175 :: v176 :: v177 :: v178 :: v179 :: v180 :: v181 :: v182 :: v183 :: v184 :: v185 :: v186 :: v187 :: v188 :: v189 :: v190 :: v191 :: v192 :: v193 :: v194 :: v195 :: []), []⟩ W := by
  replace hQ := Lib.hid hQ
  obtain ⟨a0, a1, a2, a3, a4, a5, hI⟩ := hR.1
  obtain ⟨z0, z1, z2, z3, z4, z5⟩ := hI.cells6
  have zf := hI.frozen
  have hge := hR.2.2.2.2.1
  have hnz : (0 : Int) < (n : Int) := by omega
  have hnn : 0 < n := by omega
  conv => arg 2; whnf
  have ne1 : ¬ g3 = b := by
    obtain ⟨s0, hs0, h0⟩ := hO.cellS 0 (by omega)
    have hb1 : b < w.heap.size := World.block_lt_of_cell? w _ h0
    omega
  go_upto_region 19 with fail
  go_cut [117] from 117 to 117 (fun s W1 => ∃ x : Bool, s = .bool x ∧ (x = true → n = 4) ∧ W1 = W)
  case first =>
    by_cases m : n = 4
    · have hm := m
      subst m
      go_wp2_with fail
      all_goals
        go_meet
        exact ⟨_, rfl, fun _ => hm, rfl⟩
    · have m4 : ((n : Int) == 4) = false := by simp; omega
      go_wp2_with fail
      all_goals
        go_meet
        exact ⟨_, rfl, fun h => (by cases h), rfl⟩
  case rest =>
    obtain ⟨x, rfl, hx1, hw⟩ := hcut
    obtain rfl := hw.symm
    cases x with
    | true =>
      have hm := hx1 rfl
      have hx1 := 0
      subst hm
      obtain ⟨s1, hs1, h1⟩ := hO.cellS 1 (by omega)
      have q1 := cell_below hR.2.2.2.2.2 _ _ h1
      obtain ⟨s2, hs2, h2⟩ := hO.cellS 2 (by omega)
      have q2 := cell_below hR.2.2.2.2.2 _ _ h2
      obtain ⟨s3, hs3, h3⟩ := hO.cellS 3 (by omega)
      have q3 := cell_below hR.2.2.2.2.2 _ _ h3
      clear h1 h2 h3
      go_wp2_with (first | (go_at_call 100; (with_reducible refine (c_l1ReadReg _ _ ?_).mono ?_); omega; rintro e w' ⟨r, q, rfl, hr0, hr1, hq0, hq1, rfl⟩) | (go_at_call 101; (with_reducible refine (c_l1Signed _ _ ?_).mono ?_); omega; rintro e w' ⟨r, rfl, hr0, hr1, rfl⟩) | fail)
      apply hQ.out
      with_reducible (repeat (first | exact hR | refine Reading.set ?_ _ _))
    | false =>
      go_upto_if 117 with fail
      refine wp_cond_false (by rfl) ?_
      exact rd25 hO hn hn' hK hR (by intros; apply hQ.out; assumption)
set_option maxRecDepth 100000 in
set_option maxHeartbeats 4000000 in
theorem rd17 {b n c g3 K : Nat} {v1 v4 v6 v7 v8 v9 v10 v11 v12 v13 v14 v15 v16 v17 v18 v19 v20 v21 v22 v23 v24 v25 v26 v27 v28 v29 v30 v31 v32 v33 v34 v35 v36 v37 v38 v39 v40 v41 v42 v43 v44 v45 v46 v47 v48 v49 v50 v51 v52 v53 v54 v55 v56 v57 v58 v59 v60 v61 v62 v63 v64 v65 v66 v67 v68 v69 v70 v71 v72 v73 v74 v75 v76 v77 v78 v79 v80 v81 v82 v83 v84 v85 v86 v87 v88 v89 v90 v91 v92 v93 v94 v95 v96 v97 v98 v99 v100 v101 v102 v103 v104 v105 v106 v107 v108 v109 v110 v111 v112 v113 v114 v115 v116 v117 v118 v119 v120 v121 v122 v123 v124 v125 v126 v127 v128 v129 v130 v131 v132 v133 v134 v135 v136 v137 v138 v139 v140 v141 v142 v143 v144 v145 v146 v147 v148 v149 v150 v151 v152 v153 v154 v155 v156 v157 v158 v159 v160 v161 v162 v163 v164 v165 v166 v167 v168 v169 v170 v171 v172 v173 v174 v175 v176 v177 v178 v179 v180 v181 v182 v183 v184 v185 v186 v187 v188 v189 v190 v191 v192 v193 v194 v195 : Value} {w W : World} {K0 : Act → World → Prop} {Post : Ending → World → Prop} (hO : OwnP (isS K) w 0 9 1 (.slice (some ⟨b, 0, none⟩) n c) n) (hn : 1 ≤ n) (hn' : n ≤ 100) (hK : K ≤ 1000) (hR : Reading w w.heap.size g3 W)  (hQ : ∀ (u10 u11 u12 u13 u14 u15 u16 u17 u104 u105 u106 u107 u108 u109 u110 u111 u112 u113 u114 u115 u116 u117 u118 u119 u120 u121 u122 u123 u124 u125 u126 u127 u128 u129 u130 u131 u132 u133 u134 u135 u136 u137 u138 u139 u140 u141 u142 u143 u144 u145 u146 u147 u148 u149 u150 u151 u152 u153 u154 u155 u156 u157 u158 u159 u160 u161 u162 u163 u164 u165 u166 u167 u168 u169 u170 u171 u172 u173 u174 u175 u176 u177 u178 u179 u180 u181 u182 u183 u184 u185 u186 u187 u188 u189 u190 u191 u192 u193 u194 : Value) (W' : World), Reading w w.heap.size g3 W' → K0 ⟨List.toArray ((.slice (some ⟨b, 0, none⟩) n c) :: v1 :: (.pointer (some ⟨w.heap.size, 0, none⟩)) :: (.pointer (some ⟨g3, 0, none⟩)) :: v4 :: (.int .i64 n) :: v6 :: v7 :: v8 :: v9 :: u10 :: u11 :: u12 :: u13 :: u14 :: u15 :: u16 :: u17 :: v18 :: v19 :: v20 :: v21 :: v22 :: v23 :: v24 :: v25 :: v26 :: v27 :: v28 :: v29 :: v30 :: v31 :: v32 :: v33 :: v34 :: v35 :: v36 :: v37 :: v38 :: v39 :: v40 :: v41 :: v42 :: v43 :: v44 :: v45 :: v46 :: v47 :: v48 :: v49 :: v50 :: v51 :: v52 :: v53 :: v54 :: v55 :: v56 :: v57 :: v58 :: v59 :: v60 :: v61 :: v62 :: v63 :: v64 :: v65 :: v66 :: v67 :: v68 :: v69 :: v70 :: v71 :: v72 :: v73 :: v74 :: v75 :: v76 :: v77 :: v78 :: v79 :: v80 :: v81 :: v82 :: v83 :: v84 :: v85 :: v86 :: v87 :: v88 :: v89 :: v90 :: v91 :: v92 :: v93 :: v94 :: v95 :: v96 :: v97 :: v98 :: v99 :: v100 :: v101 :: v102 :: v103 :: u104 :: u105 :: u106 :: u107 :: u108 :: u109 :: u110 :: u111 :: u112 :: u113 :: u114 :: u115 :: u116 :: u117 :: u118 :: u119 :: u120 :: u121 :: u122 :: u123 :: u124 :: u125 :: u126 :: u127 :: u128 :: u129 :: u130 :: u131 :: u132 :: u133 :: u134 :: u135 :: u136 :: u137 :: u138 :: u139 :: u140 :: u141 :: u142 :: u143 :: u144 :: u145 :: u146 :: u147 :: u148 :: u149 :: u150 :: u151 :: u152 :: u153 :: u154 :: u155 :: u156 :: u157 :: u158 :: u159 :: u160 :: u161 :: u162 :: u163 :: u164 :: u165 :: u166 :: u167 :: u168 :: u169 :: u170 :: u171 :: u172 :: u173 :: u174 :: u175 :: u176 :: u177 :: u178 :: u179 :: u180 :: u181 :: u182 :: u183 :: u184 :: u185 :: u186 :: u187 :: u188 :: u189 :: u190 :: u191 :: u192 :: u193 :: u194 :: v195 :: []), []⟩ W') : Code.wp Tryz.prog rd17c (Exit.then K0 (bodyPost Tryz.prog Tryz.f75 Post)) ⟨List.toArray ((.slice (some ⟨b, 0, none⟩) n c) :: v1 :: (.pointer (some ⟨w.heap.size, 0, none⟩)) :: (.pointer (some ⟨g3, 0, none⟩)) :: v4 :: (.int .i64 n) :: v6 :: v7 :: v8 :: v9 :: v10 :: v11 :: v12 :: v13 :: v14 :: v15 :: v16 :: v17 :: v18 :: v19 :: v20 :: v21 :: v22 :: v23 :: v24 :: v25 :: v26 :: v27 :: v28 :: v29 :: v30 :: v31 :: v32 :: v33 :: v34 :: v35 :: v36 :: v37 :: v38 :: v39 :: v40 :: v41 :: v42 :: v43 :: v44 :: v45 :: v46 :: v47 :: v48 :: v49 :: v50 :: v51 :: v52 :: v53 :: v54 :: v55 :: v56 :: v57 :: v58 :: v59 :: v60 :: v61 :: v62 :: v63 :: v64 :: v65 :: v66 :: v67 :: v68 :: v69 :: v70 :: v71 :: v72 :: v73 :: v74 :: v75 :: v76 :: v77 :: v78 :: v79 :: v80 :: v81 :: v82 :: v83 :: v84 :: v85 :: v86 :: v87 :: v88 :: v89 :: v90 :: v91 :: v92 :: v93 :: v94 :: v95 :: v96 :: v97 :: v98 :: v99 :: v100 :: v101 :: v102 :: v103 :: v104 :: v105 :: v106 :: v107 :: v108 :: v109 :: v110 :: v111 :: v112 :: v113 :: v114 :: v115 :: v116 :: v117 :: v118 :: v119 :: v120 :: v121 :: v122 :: v123 :: v124 :: v125 :: v126 :: v127 :: v128 :: v129 :: v130 :: v131 :: v132 :: v133 :: v134 :: v135 :: v136 :: v137 :: v138 :: v139 :: v140 :: v141 :: v142 :: v143 :: v144 :: v145 :: v146 :: v147 :: v148 :: v149 :: v150 :: v151 :: v152 :: v153 :: v154 :: v155 :: v156 :: v157 :: v158 :: v159 :: v160 :: v161 :: v162 :: v163 :: v164 :: v165 :: v166 :: v167 :: v168 :: v169 :: v170 :: v171 :: v172 :: v173 :: v174 :: v175 :: v176 :: v177 :: v178 :: v179 :: v180 :: v181 :: v182 :: v183 :: v184 :: v185 :: v186 :: v187 :: v188 :: v189 :: v190 :: v191 :: v192 :: v193 :: v194 :: v195 :: []), []⟩ W := by
  replace hQ := Lib.hid hQ
  obtain ⟨a0, a1, a2, a3, a4, a5, hI⟩ := hR.1
  obtain ⟨z0, z1, z2, z3, z4, z5⟩ := hI.cells6
  have zf := hI.frozen
  have hge := hR.2.2.2.2.1
  have hnz : (0 : Int) < (n : Int) := by omega
  have hnn : 0 < n := by omega
  conv => arg 2; whnf
  have ne1 : ¬ g3 = b := by
    obtain ⟨s0, hs0, h0⟩ := hO.cellS 0 (by omega)
    have hb1 : b < w.heap.size := World.block_lt_of_cell? w _ h0
    omega
  go_upto_region 17 with fail
  go_cut [104] from 104 to 104 (fun s W1 => ∃ x : Bool, s = .bool x ∧ (x = true → n = 2) ∧ W1 = W)
  case first =>
    by_cases m : n = 2
    · have hm := m
      subst m
      go_wp2_with fail
      all_goals
        go_meet
        exact ⟨_, rfl, fun _ => hm, rfl⟩
    · have m4 : ((n : Int) == 2) = false := by simp; omega
      go_wp2_with fail
      all_goals
        go_meet
        exact ⟨_, rfl, fun h => (by cases h), rfl⟩
  case rest =>
    obtain ⟨x, rfl, hx1, hw⟩ := hcut
    obtain rfl := hw.symm
    cases x with
    | true =>
      have hm := hx1 rfl
      have hx1 := 0
      subst hm
      obtain ⟨s1, hs1, h1⟩ := hO.cellS 1 (by omega)
      have q1 := cell_below hR.2.2.2.2.2 _ _ h1
      clear h1
      go_wp2_with (first | (go_at_call 101; (with_reducible refine (c_l1Signed _ _ ?_).mono ?_); omega; rintro e w' ⟨r, rfl, hr0, hr1, rfl⟩) | fail)
      apply hQ.out
      with_reducible (repeat (first | exact hR | refine Reading.set ?_ _ _))
    | false =>
      go_upto_if 104 with fail
      refine wp_cond_false (by rfl) ?_
      exact rd19 hO hn hn' hK hR (by intros; apply hQ.out; assumption)
set_option maxRecDepth 100000 in
set_option maxHeartbeats 4000000 in
theorem rd9 {b n c g3 K : Nat} {v1 v4 v6 v7 v8 v9 v10 v11 v12 v13 v14 v15 v16 v17 v18 v19 v20 v21 v22 v23 v24 v25 v26 v27 v28 v29 v30 v31 v32 v33 v34 v35 v36 v37 v38 v39 v40 v41 v42 v43 v44 v45 v46 v47 v48 v49 v50 v51 v52 v53 v54 v55 v56 v57 v58 v59 v60 v61 v62 v63 v64 v65 v66 v67 v68 v69 v70 v71 v72 v73 v74 v75 v76 v77 v78 v79 v80 v81 v82 v83 v84 v85 v86 v87 v88 v89 v90 v91 v92 v93 v94 v95 v96 v97 v98 v99 v100 v101 v102 v103 v104 v105 v106 v107 v108 v109 v110 v111 v112 v113 v114 v115 v116 v117 v118 v119 v120 v121 v122 v123 v124 v125 v126 v127 v128 v129 v130 v131 v132 v133 v134 v135 v136 v137 v138 v139 v140 v141 v142 v143 v144 v145 v146 v147 v148 v149 v150 v151 v152 v153 v154 v155 v156 v157 v158 v159 v160 v161 v162 v163 v164 v165 v166 v167 v168 v169 v170 v171 v172 v173 v174 v175 v176 v177 v178 v179 v180 v181 v182 v183 v184 v185 v186 v187 v188 v189 v190 v191 v192 v193 v194 v195 : Value} {w W : World} {K0 : Act → World → Prop} {Post : Ending → World → Prop} (hO : OwnP (isS K) w 0 9 1 (.slice (some ⟨b, 0, none⟩) n c) n) (hn : 1 ≤ n) (hn' : n ≤ 100) (hK : K ≤ 1000) (hR : Reading w w.heap.size g3 W)  (hQ : ∀ (u6 u7 u8 u9 u10 u11 u12 u13 u14 u15 u16 u17 u60 u61 u62 u63 u64 u65 u66 u67 u68 u69 u70 u71 u72 u73 u74 u75 u76 u77 u78 u79 u80 u81 u82 u83 u84 u85 u86 u87 u88 u89 u90 u91 u92 u93 u94 u95 u96 u97 u98 u99 u100 u101 u102 u103 u104 u105 u106 u107 u108 u109 u110 u111 u112 u113 u114 u115 u116 u117 u118 u119 u120 u121 u122 u123 u124 u125 u126 u127 u128 u129 u130 u131 u132 u133 u134 u135 u136 u137 u138 u139 u140 u141 u142 u143 u144 u145 u146 u147 u148 u149 u150 u151 u152 u153 u154 u155 u156 u157 u158 u159 u160 u161 u162 u163 u164 u165 u166 u167 u168 u169 u170 u171 u172 u173 u174 u175 u176 u177 u178 u179 u180 u181 u182 u183 u184 u185 u186 u187 u188 u189 u190 u191 u192 u193 u194 : Value) (W' : World), Reading w w.heap.size g3 W' → K0 ⟨List.toArray ((.slice (some ⟨b, 0, none⟩) n c) :: v1 :: (.pointer (some ⟨w.heap.size, 0, none⟩)) :: (.pointer (some ⟨g3, 0, none⟩)) :: v4 :: (.int .i64 n) :: u6 :: u7 :: u8 :: u9 :: u10 :: u11 :: u12 :: u13 :: u14 :: u15 :: u16 :: u17 :: v18 :: v19 :: v20 :: v21 :: v22 :: v23 :: v24 :: v25 :: v26 :: v27 :: v28 :: v29 :: v30 :: v31 :: v32 :: v33 :: v34 :: v35 :: v36 :: v37 :: v38 :: v39 :: v40 :: v41 :: v42 :: v43 :: v44 :: v45 :: v46 :: v47 :: v48 :: v49 :: v50 :: v51 :: v52 :: v53 :: v54 :: v55 :: v56 :: v57 :: v58 :: v59 :: u60 :: u61 :: u62 :: u63 :: u64 :: u65 :: u66 :: u67 :: u68 :: u69 :: u70 :: u71 :: u72 :: u73 :: u74 :: u75 :: u76 :: u77 :: u78 :: u79 :: u80 :: u81 :: u82 :: u83 :: u84 :: u85 :: u86 :: u87 :: u88 :: u89 :: u90 :: u91 :: u92 :: u93 :: u94 :: u95 :: u96 :: u97 :: u98 :: u99 :: u100 :: u101 :: u102 :: u103 :: u104 :: u105 :: u106 :: u107 :: u108 :: u109 :: u110 :: u111 :: u112 :: u113 :: u114 :: u115 :: u116 :: u117 :: u118 :: u119 :: u120 :: u121 :: u122 :: u123 :: u124 :: u125 :: u126 :: u127 :: u128 :: u129 :: u130 :: u131 :: u132 :: u133 :: u134 :: u135 :: u136 :: u137 :: u138 :: u139 :: u140 :: u141 :: u142 :: u143 :: u144 :: u145 :: u146 :: u147 :: u148 :: u149 :: u150 :: u151 :: u152 :: u153 :: u154 :: u155 :: u156 :: u157 :: u158 :: u159 :: u160 :: u161 :: u162 :: u163 :: u164 :: u165 :: u166 :: u167 :: u168 :: u169 :: u170 :: u171 :: u172 :: u173 :: u174 :: u175 :: u176 :: u177 :: u178 :: u179 :: u180 :: u181 :: u182 :: u183 :: u184 :: u185 :: u186 :: u187 :: u188 :: u189 :: u190 :: u191 :: u192 :: u193 :: u194 :: v195 :: []), []⟩ W') : Code.wp Tryz.prog rd9c (Exit.then K0 (bodyPost Tryz.prog Tryz.f75 Post)) ⟨List.toArray ((.slice (some ⟨b, 0, none⟩) n c) :: v1 :: (.pointer (some ⟨w.heap.size, 0, none⟩)) :: (.pointer (some ⟨g3, 0, none⟩)) :: v4 :: (.int .i64 n) :: v6 :: v7 :: v8 :: v9 :: v10 :: v11 :: v12 :: v13 :: v14 :: v15 :: v16 :: v17 :: v18 :: v19 :: v20 :: v21 :: v22 :: v23 :: v24 :: v25 :: v26 :: v27 :: v28 :: v29 :: v30 :: v31 :: v32 :: v33 :: v34 :: v35 :: v36 :: v37 :: v38 :: v39 :: v40 :: v41 :: v42 :: v43 :: v44 :: v45 :: v46 :: v47 :: v48 :: v49 :: v50 :: v51 :: v52 :: v53 :: v54 :: v55 :: v56 :: v57 :: v58 :: v59 :: v60 :: v61 :: v62 :: v63 :: v64 :: v65 :: v66 :: v67 :: v68 :: v69 :: v70 :: v71 :: v72 :: v73 :: v74 :: v75 :: v76 :: v77 :: v78 :: v79 :: v80 :: v81 :: v82 :: v83 :: v84 :: v85 :: v86 :: v87 :: v88 :: v89 :: v90 :: v91 :: v92 :: v93 :: v94 :: v95 :: v96 :: v97 :: v98 :: v99 :: v100 :: v101 :: v102 :: v103 :: v104 :: v105 :: v106 :: v107 :: v108 :: v109 :: v110 :: v111 :: v112 :: v113 :: v114 :: v115 :: v116 :: v117 :: v118 :: v119 :: v120 :: v121 :: v122 :: v123 :: v124 :: v125 :: v126 :: v127 :: v128 :: v129 :: v130 :: v131 :: v132 :: v133 :: v134 :: v135 :: v136 :: v137 :: v138 :: v139 :: v140 :: v141 :: v142 :: v143 :: v144 :: v145 :: v146 :: v147 :: v148 :: v149 :: v150 :: v151 :: v152 :: v153 :: v154 :: v155 :: v156 :: v157 :: v158 :: v159 :: v160 :: v161 :: v162 :: v163 :: v164 :: v165 :: v166 :: v167 :: v168 :: v169 :: v170 :: v171 :: v172 :: v173 :: v174 :: v175 :: v176 :: v177 :: v178 :: v179 :: v180 :: v181 :: v182 :: v183 :: v184 :: v185 :: v186 :: v187 :: v188 :: v189 :: v190 :: v191 :: v192 :: v193 :: v194 :: v195 :: []), []⟩ W := by
  replace hQ := Lib.hid hQ
  obtain ⟨a0, a1, a2, a3, a4, a5, hI⟩ := hR.1
  obtain ⟨z0, z1, z2, z3, z4, z5⟩ := hI.cells6
  have zf := hI.frozen
  have hge := hR.2.2.2.2.1
  have hnz : (0 : Int) < (n : Int) := by omega
  have hnn : 0 < n := by omega
  conv => arg 2; whnf
  have ne1 : ¬ g3 = b := by
    obtain ⟨s0, hs0, h0⟩ := hO.cellS 0 (by omega)
    have hb1 : b < w.heap.size := World.block_lt_of_cell? w _ h0
    omega
  go_upto_region 9 with fail
  go_cut [60] from 60 to 60 (fun s W1 => ∃ x : Bool, s = .bool x ∧ (x = true → n = 3 ∨ n = 4) ∧ W1 = W)
  case first =>
    by_cases hn3 : n = 3 ∨ n = 4
    · have h34 := hn3
      rcases hn3 with rfl | rfl
      all_goals
        go_wp2_with (first | (go_at_call 98; (with_reducible refine (c_l1Alu _ _).mono ?_); rintro e w' ⟨rfl, rfl⟩) | (go_at_call 99; (with_reducible refine (c_l1Jump _ _).mono ?_); rintro e w' ⟨rfl, rfl⟩) | fail)
        all_goals
          go_meet
          exact ⟨_, rfl, fun _ => h34, rfl⟩
    · have m4 : ((n : Int) == 4) = false := by simp; omega
      have m3 : ((n : Int) == 3) = false := by simp; omega
      go_wp2_with (first | (go_at_call 98; (with_reducible refine (c_l1Alu _ _).mono ?_); rintro e w' ⟨rfl, rfl⟩) | (go_at_call 99; (with_reducible refine (c_l1Jump _ _).mono ?_); rintro e w' ⟨rfl, rfl⟩) | fail)
      all_goals
        go_meet
        exact ⟨_, rfl, fun h => (by cases h), rfl⟩
  case rest =>
    obtain ⟨x, rfl, hx1, hw⟩ := hcut
    obtain rfl := hw.symm
    cases x with
    | true =>
      have hn3 := hx1 rfl
      have hx1 := 0
      obtain ⟨s1, hs1, h1⟩ := hO.cellS 1 (by omega)
      have q1 := cell_below hR.2.2.2.2.2 _ _ h1
      obtain ⟨s2, hs2, h2⟩ := hO.cellS 2 (by omega)
      have q2 := cell_below hR.2.2.2.2.2 _ _ h2
      clear h1 h2
      rcases hn3 with rfl | rfl
      · go_wp2_with (first | (go_at_call 100; (with_reducible refine (c_l1ReadReg _ _ ?_).mono ?_); omega; rintro e w' ⟨r, q, rfl, hr0, hr1, hq0, hq1, rfl⟩) | fail)
        apply hQ.out
        with_reducible (repeat (first | exact hR | refine Reading.set ?_ _ _))
      ·
        obtain ⟨s3, hs3, h3⟩ := hO.cellS 3 (by omega)
        have q3 := cell_below hR.2.2.2.2.2 _ _ h3
        clear h3
        go_wp2_with (first | (go_at_call 100; (with_reducible refine (c_l1ReadReg _ _ ?_).mono ?_); omega; rintro e w' ⟨r, q, rfl, hr0, hr1, hq0, hq1, rfl⟩) | (go_at_call 101; (with_reducible refine (c_l1Signed _ _ ?_).mono ?_); omega; rintro e w' ⟨r, rfl, hr0, hr1, rfl⟩) | fail)
        apply hQ.out
        with_reducible (repeat (first | exact hR | refine Reading.set ?_ _ _))
    | false =>
      go_upto_if 60 with fail
      refine wp_cond_false (by rfl) ?_
      exact rd17 hO hn hn' hK hR (by intros; apply hQ.out; assumption)
set_option maxRecDepth 100000 in
set_option maxHeartbeats 4000000 in
theorem rd6 {b n c g3 K k : Nat} {v1 v5 v6 v7 v8 v9 v10 v11 v12 v13 v14 v15 v16 v17 v18 v19 v20 v21 v22 v23 v24 v25 v26 v27 v28 v29 v30 v31 v32 v33 v34 v35 v36 v37 v38 v39 v40 v41 v42 v43 v44 v45 v46 v47 v48 v49 v50 v51 v52 v53 v54 v55 v56 v57 v58 v59 v60 v61 v62 v63 v64 v65 v66 v67 v68 v69 v70 v71 v72 v73 v74 v75 v76 v77 v78 v79 v80 v81 v82 v83 v84 v85 v86 v87 v88 v89 v90 v91 v92 v93 v94 v95 v96 v97 v98 v99 v100 v101 v102 v103 v104 v105 v106 v107 v108 v109 v110 v111 v112 v113 v114 v115 v116 v117 v118 v119 v120 v121 v122 v123 v124 v125 v126 v127 v128 v129 v130 v131 v132 v133 v134 v135 v136 v137 v138 v139 v140 v141 v142 v143 v144 v145 v146 v147 v148 v149 v150 v151 v152 v153 v154 v155 v156 v157 v158 v159 v160 v161 v162 v163 v164 v165 v166 v167 v168 v169 v170 v171 v172 v173 v174 v175 v176 v177 v178 v179 v180 v181 v182 v183 v184 v185 v186 v187 v188 v189 v190 v191 v192 v193 v194 v195 : Value} {w W : World} {K0 : Act → World → Prop} {Post : Ending → World → Prop} (hO : OwnP (isS K) w 0 9 1 (.slice (some ⟨b, 0, none⟩) n c) n) (hn : 1 ≤ n) (hn' : n ≤ 100) (hK : K ≤ 1000) (hR : Reading w w.heap.size g3 W) {s0 : ByteArray} (hz : W.cell? ⟨b, 0, none⟩ = some (.string s0)) (hs0 : s0.size ≤ K) (hx2 : 1 ≤ s0.size) (hQ : ∀ (u44 u45 u46 u47 u48 u49 u50 u51 u52 u53 u54 u55 u56 u57 : Value) (W' : World), Reading w w.heap.size g3 W' → K0 ⟨List.toArray ((.slice (some ⟨b, 0, none⟩) n c) :: v1 :: (.pointer (some ⟨w.heap.size, 0, none⟩)) :: (.pointer (some ⟨g3, 0, none⟩)) :: (.int .i64 k) :: v5 :: v6 :: v7 :: v8 :: v9 :: v10 :: v11 :: v12 :: v13 :: v14 :: v15 :: v16 :: v17 :: v18 :: v19 :: v20 :: v21 :: v22 :: v23 :: v24 :: v25 :: v26 :: v27 :: v28 :: v29 :: v30 :: v31 :: v32 :: v33 :: v34 :: v35 :: v36 :: v37 :: v38 :: v39 :: v40 :: v41 :: v42 :: v43 :: u44 :: u45 :: u46 :: u47 :: u48 :: u49 :: u50 :: u51 :: u52 :: u53 :: u54 :: u55 :: u56 :: u57 :: v58 :: v59 :: v60 :: v61 :: v62 :: v63 :: v64 :: v65 :: v66 :: v67 :: v68 :: v69 :: v70 :: v71 :: v72 :: v73 :: v74 :: v75 :: v76 :: v77 :: v78 :: v79 :: v80 :: v81 :: v82 :: v83 :: v84 :: v85 :: v86 :: v87 :: v88 :: v89 :: v90 :: v91 :: v92 :: v93 :: v94 :: v95 :: v96 :: v97 :: v98 :: v99 :: v100 :: v101 :: v102 :: v103 :: v104 :: v105 :: v106 :: v107 :: v108 :: v109 :: v110 :: v111 :: v112 :: v113 :: v114 :: v115 :: v116 :: v117 :: v118 :: v119 :: v120 :: v121 :: v122 :: v123 :: v124 :: v125 :: v126 :: v127 :: v128 :: v129 :: v130 :: v131 :: v132 :: v133 :: v134 :: v135 :: v136 :: v137 :: v138 :: v139 :: v140 :: v141 :: v142 :: v143 :: v144 :: v145 :: v146 :: v147 :: v148 :: v149 :: v150 :: v151 :: v152 :: v153 :: v154 :: v155 :: v156 :: v157 :: v158 :: v159 :: v160 :: v161 :: v162 :: v163 :: v164 :: v165 :: v166 :: v167 :: v168 :: v169 :: v170 :: v171 :: v172 :: v173 :: v174 :: v175 :: v176 :: v177 :: v178 :: v179 :: v180 :: v181 :: v182 :: v183 :: v184 :: v185 :: v186 :: v187 :: v188 :: v189 :: v190 :: v191 :: v192 :: v193 :: v194 :: v195 :: []), []⟩ W') : Code.wp Tryz.prog rd6c (Exit.then K0 (bodyPost Tryz.prog Tryz.f75 Post)) ⟨List.toArray ((.slice (some ⟨b, 0, none⟩) n c) :: v1 :: (.pointer (some ⟨w.heap.size, 0, none⟩)) :: (.pointer (some ⟨g3, 0, none⟩)) :: (.int .i64 k) :: v5 :: v6 :: v7 :: v8 :: v9 :: v10 :: v11 :: v12 :: v13 :: v14 :: v15 :: v16 :: v17 :: v18 :: v19 :: v20 :: v21 :: v22 :: v23 :: v24 :: v25 :: v26 :: v27 :: v28 :: v29 :: v30 :: v31 :: v32 :: v33 :: v34 :: v35 :: v36 :: v37 :: v38 :: v39 :: v40 :: v41 :: v42 :: v43 :: v44 :: v45 :: v46 :: v47 :: v48 :: v49 :: v50 :: v51 :: v52 :: v53 :: v54 :: v55 :: v56 :: v57 :: v58 :: v59 :: v60 :: v61 :: v62 :: v63 :: v64 :: v65 :: v66 :: v67 :: v68 :: v69 :: v70 :: v71 :: v72 :: v73 :: v74 :: v75 :: v76 :: v77 :: v78 :: v79 :: v80 :: v81 :: v82 :: v83 :: v84 :: v85 :: v86 :: v87 :: v88 :: v89 :: v90 :: v91 :: v92 :: v93 :: v94 :: v95 :: v96 :: v97 :: v98 :: v99 :: v100 :: v101 :: v102 :: v103 :: v104 :: v105 :: v106 :: v107 :: v108 :: v109 :: v110 :: v111 :: v112 :: v113 :: v114 :: v115 :: v116 :: v117 :: v118 :: v119 :: v120 :: v121 :: v122 :: v123 :: v124 :: v125 :: v126 :: v127 :: v128 :: v129 :: v130 :: v131 :: v132 :: v133 :: v134 :: v135 :: v136 :: v137 :: v138 :: v139 :: v140 :: v141 :: v142 :: v143 :: v144 :: v145 :: v146 :: v147 :: v148 :: v149 :: v150 :: v151 :: v152 :: v153 :: v154 :: v155 :: v156 :: v157 :: v158 :: v159 :: v160 :: v161 :: v162 :: v163 :: v164 :: v165 :: v166 :: v167 :: v168 :: v169 :: v170 :: v171 :: v172 :: v173 :: v174 :: v175 :: v176 :: v177 :: v178 :: v179 :: v180 :: v181 :: v182 :: v183 :: v184 :: v185 :: v186 :: v187 :: v188 :: v189 :: v190 :: v191 :: v192 :: v193 :: v194 :: v195 :: []), []⟩ W := by
  replace hQ := Lib.hid hQ
  have hx3 : decide ((1 : Int) ≤ (s0.size : Int)) = true := by simp; omega
  obtain ⟨a0, a1, a2, a3, a4, a5, hI⟩ := hR.1
  have hnz : (0 : Int) < (n : Int) := by omega
  have hnn : 0 < n := by omega
  have hg3 := hI.lt
  have hne : ¬ g3 = b := by
    obtain ⟨s0, hs0, h0⟩ := hO.cellS 0 (by omega)
    have hb1 : b < w.heap.size := World.block_lt_of_cell? w _ h0
    have := hR.2.2.2.2.1
    omega
  have hx4 : (0 : Int) ≤ (s0.size : Int) - 1 := by omega
  have hx5 : IntKind.i64.wrap ((s0.size : Int) - 1) = (s0.size : Int) - 1 := by rw [IntKind.wrap_i64]; omega
  have hx6 : (s0.size : Int) - 1 ≤ (s0.size : Int) := by omega
  have hx7 : s0.size - 1 ≤ s0.size := by omega
  have hx8 : ((s0.size : Int) - 1).toNat = s0.size - 1 := by omega
  have hR := hR.drew
  have hI := hI.drew
  have hzd := cell_drew hz
  conv => arg 2; whnf
  go_upto_region 6 with fail
  go_region_with (first | (go_at_call 96; (with_reducible refine (c_l1Words _).mono ?_); rintro e w1 ⟨b1, c1, rfl, hO1, hb1⟩; have hR := hR.bl hb1; have hI := hI.bl hb1; obtain ⟨y0, y1, y2, y3, y4, y5⟩ := hI.cells6; have yf := hI.frozen; have hz1 := cell_below hb1 ⟨b, 0, none⟩ _ hzd; have hr := hO1.reads) | (go_at_call 95; (with_reducible refine (c_l1Find _ _ _ _ _ _ (by with_reducible assumption) ?_).mono ?_); omega; rintro e w' ⟨r, rfl, hf0, hf1, rfl⟩))
  all_goals
    have hR := hR.set 0 r
    obtain ⟨b0, b2, b3, b4, b5, b6, hI⟩ := hR.1
    obtain ⟨z0, z1, z2, z3, z4, z5⟩ := hI.cells6
    have zf := hI.frozen
    go_wp2
    apply hQ.out
    with_reducible exact hR.set 5 _
end Go.Proofs.YtlofelnfcdbedaaGreat.S
