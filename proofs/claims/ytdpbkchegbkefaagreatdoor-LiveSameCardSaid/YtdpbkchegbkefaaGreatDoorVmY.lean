/- Package vm: Run's loop, a theorem for each operation (9, 10, 14, 15, 19). -/
import Derived.Test.YtdpbkchegbkefaaGreatDoorVmS
namespace Go.Proofs.YtdpbkchegbkefaaGreatDoor
open Go.RowKit
namespace Code
attribute [local go_sem ↓] Go.wp_at_zero Go.wp_at_succ

set_option maxRecDepth 1000000 in
set_option maxHeartbeats 12800000 in
theorem case9 (Q : Exit → Act → World → Prop) (pa ia : Option Addr) (len cap pn pc im ic b off k n R G : Nat) (pv ov hv : Value) (ps : List B.Ins) (pay inp : List Nat) (s : B.St) (w wr : World) (hp : ProgAt w (some ⟨b, off, none⟩) len ps) (hinp : ListAt w ia im (inp.map u64V)) (hwi : B.Words inp) (hl : len ≤ 16384)
    (hnk : n ≤ k) (hvm : VmAt wr w.heap.size w.heap.size R G pv ov hv s n) (hrun : B.RunTo ps inp (B.start pay im) k s n) (hst : B.StOk pn im s) (hb : Below w.heap.size w wr)
    (hlt : k < len) (an bn nn mm : Nat) (hx : ps[k]? = some ⟨9, an, bn, nn, mm⟩) (hok : B.OpOk 9 an bn nn mm pn im (len - k - 1))
    (c3 c4 c5 c7 c8 c13 c14 c15 c16 c17 c18 c19 c20 c21 c22 c23 c24 c25 c26 c27 c28 c29 c30 c31 c267 u12 u32 u33 u34 u35 u36 u37 u38 u39 u40 u41 u42 u43 u44 u45 u46 u47 u48 u49 u50 u51 u52 u53 u54 u55 u56 u57 u58 u59 u60 u61 u62 u63 u64 u65 u66 u67 u68 u69 u70 u71 u72 u73 u74 u75 u76 u77 u78 u79 u80 u81 u82 u83 u84 u85 u86 u87 u88 u89 u90 u91 u92 u93 u94 u95 u96 u97 u98 u99 u100 u101 u102 u103 u104 u105 u106 u107 u108 u109 u110 u111 u112 u113 u114 u115 u116 u117 u118 u119 u120 u121 u122 u123 u124 u125 u126 u127 u128 u129 u130 u131 u132 u133 u134 u135 u136 u137 u138 u139 u140 u141 u142 u143 u144 u145 u146 u147 u148 u149 u150 u151 u152 u153 u154 u155 u156 u157 u158 u159 u160 u161 u162 u163 u164 u165 u166 u167 u168 u169 u170 u171 u172 u173 u174 u175 u176 u177 u178 u179 u180 u181 u182 u183 u184 u185 u186 u187 u188 u189 u190 u191 u192 u193 u194 u195 u196 u197 u198 u199 u200 u201 u202 u203 u204 u205 u206 u207 u208 u209 u210 u211 u212 u213 u214 u215 u216 u217 u218 u219 u220 u221 u222 u223 u224 u225 u226 u227 u228 u229 u230 u231 u232 u233 u234 u235 u236 u237 u238 u239 u240 u241 u242 u243 u244 u245 u246 u247 u248 u249 u250 u251 u252 u253 u254 u255 u256 u257 u258 u259 u260 u261 u262 u263 u264 u265 u266 : Value)
    (hn : ∀ {i : Int} (k' : Nat) {v12 v32 v33 v34 v35 v36 v37 v38 v39 v40 v41 v42 v43 v44 v45 v46 v47 v48 v49 v50 v51 v52 v53 v54 v55 v56 v57 v58 v59 v60 v61 v62 v63 v64 v65 v66 v67 v68 v69 v70 v71 v72 v73 v74 v75 v76 v77 v78 v79 v80 v81 v82 v83 v84 v85 v86 v87 v88 v89 v90 v91 v92 v93 v94 v95 v96 v97 v98 v99 v100 v101 v102 v103 v104 v105 v106 v107 v108 v109 v110 v111 v112 v113 v114 v115 v116 v117 v118 v119 v120 v121 v122 v123 v124 v125 v126 v127 v128 v129 v130 v131 v132 v133 v134 v135 v136 v137 v138 v139 v140 v141 v142 v143 v144 v145 v146 v147 v148 v149 v150 v151 v152 v153 v154 v155 v156 v157 v158 v159 v160 v161 v162 v163 v164 v165 v166 v167 v168 v169 v170 v171 v172 v173 v174 v175 v176 v177 v178 v179 v180 v181 v182 v183 v184 v185 v186 v187 v188 v189 v190 v191 v192 v193 v194 v195 v196 v197 v198 v199 v200 v201 v202 v203 v204 v205 v206 v207 v208 v209 v210 v211 v212 v213 v214 v215 v216 v217 v218 v219 v220 v221 v222 v223 v224 v225 v226 v227 v228 v229 v230 v231 v232 v233 v234 v235 v236 v237 v238 v239 v240 v241 v242 v243 v244 v245 v246 v247 v248 v249 v250 v251 v252 v253 v254 v255 v256 v257 v258 v259 v260 v261 v262 v263 v264 v265 v266 : Value} {w' : World}, i = k' → k < k' → k' ≤ len → VmRel ps pay inp pn im w R G pv ov hv k' (n + 1) w' → Q .normal ⟨#[.slice (some ⟨b, off, none⟩) len cap, .slice pa pn pc, .slice ia im ic, c3, c4, c5, .pointer (some ⟨w.heap.size, 0, none⟩), c7, c8, .pointer (some ⟨R, 0, none⟩), .pointer (some ⟨G, 0, none⟩), .int .i64 i, v12, c13, c14, c15, c16, c17, c18, c19, c20, c21, c22, c23, c24, c25, c26, c27, c28, c29, c30, c31, v32, v33, v34, v35, v36, v37, v38, v39, v40, v41, v42, v43, v44, v45, v46, v47, v48, v49, v50, v51, v52, v53, v54, v55, v56, v57, v58, v59, v60, v61, v62, v63, v64, v65, v66, v67, v68, v69, v70, v71, v72, v73, v74, v75, v76, v77, v78, v79, v80, v81, v82, v83, v84, v85, v86, v87, v88, v89, v90, v91, v92, v93, v94, v95, v96, v97, v98, v99, v100, v101, v102, v103, v104, v105, v106, v107, v108, v109, v110, v111, v112, v113, v114, v115, v116, v117, v118, v119, v120, v121, v122, v123, v124, v125, v126, v127, v128, v129, v130, v131, v132, v133, v134, v135, v136, v137, v138, v139, v140, v141, v142, v143, v144, v145, v146, v147, v148, v149, v150, v151, v152, v153, v154, v155, v156, v157, v158, v159, v160, v161, v162, v163, v164, v165, v166, v167, v168, v169, v170, v171, v172, v173, v174, v175, v176, v177, v178, v179, v180, v181, v182, v183, v184, v185, v186, v187, v188, v189, v190, v191, v192, v193, v194, v195, v196, v197, v198, v199, v200, v201, v202, v203, v204, v205, v206, v207, v208, v209, v210, v211, v212, v213, v214, v215, v216, v217, v218, v219, v220, v221, v222, v223, v224, v225, v226, v227, v228, v229, v230, v231, v232, v233, v234, v235, v236, v237, v238, v239, v240, v241, v242, v243, v244, v245, v246, v247, v248, v249, v250, v251, v252, v253, v254, v255, v256, v257, v258, v259, v260, v261, v262, v263, v264, v265, v266, c267], []⟩ w'):
    Code.wp Tryz.prog bodyRun Q ⟨#[.slice (some ⟨b, off, none⟩) len cap, .slice pa pn pc, .slice ia im ic, c3, c4, c5, .pointer (some ⟨w.heap.size, 0, none⟩), c7, c8, .pointer (some ⟨R, 0, none⟩), .pointer (some ⟨G, 0, none⟩), .int .i64 (k : Int), u12, c13, c14, c15, c16, c17, c18, c19, c20, c21, c22, c23, c24, c25, c26, c27, c28, c29, c30, c31, u32, u33, u34, u35, u36, u37, u38, u39, u40, u41, u42, u43, u44, u45, u46, u47, u48, u49, u50, u51, u52, u53, u54, u55, u56, u57, u58, u59, u60, u61, u62, u63, u64, u65, u66, u67, u68, u69, u70, u71, u72, u73, u74, u75, u76, u77, u78, u79, u80, u81, u82, u83, u84, u85, u86, u87, u88, u89, u90, u91, u92, u93, u94, u95, u96, u97, u98, u99, u100, u101, u102, u103, u104, u105, u106, u107, u108, u109, u110, u111, u112, u113, u114, u115, u116, u117, u118, u119, u120, u121, u122, u123, u124, u125, u126, u127, u128, u129, u130, u131, u132, u133, u134, u135, u136, u137, u138, u139, u140, u141, u142, u143, u144, u145, u146, u147, u148, u149, u150, u151, u152, u153, u154, u155, u156, u157, u158, u159, u160, u161, u162, u163, u164, u165, u166, u167, u168, u169, u170, u171, u172, u173, u174, u175, u176, u177, u178, u179, u180, u181, u182, u183, u184, u185, u186, u187, u188, u189, u190, u191, u192, u193, u194, u195, u196, u197, u198, u199, u200, u201, u202, u203, u204, u205, u206, u207, u208, u209, u210, u211, u212, u213, u214, u215, u216, u217, u218, u219, u220, u221, u222, u223, u224, u225, u226, u227, u228, u229, u230, u231, u232, u233, u234, u235, u236, u237, u238, u239, u240, u241, u242, u243, u244, u245, u246, u247, u248, u249, u250, u251, u252, u253, u254, u255, u256, u257, u258, u259, u260, u261, u262, u263, u264, u265, u266, c267], []⟩ wr := by
  obtain ⟨b', off', e', hbl, hat⟩ := hp.at_ k _ hx
  simp only [Option.some.injEq, Addr.mk.injEq, and_true] at e'
  obtain ⟨rfl, rfl⟩ := e'
  obtain ⟨h0, h1, h2, h3, h4⟩ := hat.below hb hbl
  simp only at h0 h1 h2 h3 h4
  have HX := Lib.hid hx
  have HV := Lib.hid hvm
  have HRUN := Lib.hid hrun
  have HOK := Lib.hid hst
  have HB := Lib.hid hb
  have HINP := Lib.hid hinp
  have HWI := Lib.hid hwi
  have hGlt : G < wr.heap.size := lt_of_block hvm.ran
  have hsz := hb.size
  have hbG := hvm.bG
  have g5 : wr.cell? ⟨G, 5, none⟩ = some (.int .i64 (n : Int)) := by rw [cell_of_row _ _ _ _ _ _ hvm.ran]; rfl
  have gf5 : wr.frozen? ⟨G, 5, none⟩ = false := frozen_blk hvm.ran
  clear hp hinp hwi hrun hst hx hat hvm hb
  conv => arg 2; whnf
  go_upto_region 12 with fail
  obtain ⟨w5, hw5⟩ : ∃ w5, ((wr.setCell ⟨G, 5, none⟩ (.int .i64 ((n : Int) + 1))).alloc (.cells #[.int .i64 9, .int .i64 (an : Int), .int .i64 (bn : Int), .int .i64 (nn : Int), .int .u64 (mm : Int)] 33)) = w5 := ⟨_, rfl⟩
  rw [hw5]
  have HV5 : Hid (VmAt w5 w.heap.size w.heap.size R G pv ov hv s (n + 1)) := by rw [← hw5]; exact HV.out.tick.alloc _
  have hI5 : InsAt w5 wr.heap.size 0 ⟨9, an, bn, nn, mm⟩ := by rw [← hw5]; exact box_tick ⟨9, an, bn, nn, mm⟩ wr G _
  have HB5 : Hid (Below w.heap.size w w5) := by rw [← hw5]; exact (HB.out.setCell hbG _).alloc (by simp; omega) _
  have hXlt : wr.heap.size < w5.heap.size := World.block_lt_of_cell? w5 _ hI5.c0
  skip
  clear hw5 h0 h1 h2 h3 h4 g5 gf5 HB HV hGlt hsz
  generalize wr.heap.size = X at *
  obtain ⟨d0, d1, d2, d3, d4⟩ := hI5
  simp only [Nat.zero_add] at d0 d1 d2 d3 d4
  obtain ⟨D, hD, hD1, hD2, hG, hbR, hbL⟩ := vm_parts HV5.out
  have HREG : Hid (∀ j, j < 16 → w5.cell? ⟨R, j, none⟩ = some (.int .u64 (s.r j : Int))) := fun j hj => by rw [cell_of_row _ _ _ _ _ _ hD]; exact hD2 j hj
  have ha15 := hok.ha
  have ia0 : (0 : Int) ≤ (an : Int) := by omega
  have ia1 : (an : Int) < 16 := by omega
  have ra := HREG.out an (by omega)
  have fr : w5.frozen? ⟨R, an, none⟩ = false := frozen_blk hD
  have c2 : w5.cell? ⟨G, 2, none⟩ = some pv := by rw [cell_of_row _ _ _ _ _ _ hG]; rfl
  have c3' : w5.cell? ⟨G, 3, none⟩ = some ov := by rw [cell_of_row _ _ _ _ _ _ hG]; rfl
  have c4' : w5.cell? ⟨G, 4, none⟩ = some hv := by rw [cell_of_row _ _ _ _ _ _ hG]; rfl
  have c5' : w5.cell? ⟨G, 5, none⟩ = some (.int .i64 ((n : Int) + 1)) := by rw [cell_of_row _ _ _ _ _ _ hG]; rfl
  skip
  clear hD hD1 hD2 hG
  obtain ⟨n1, n8, hbn⟩ := hok.bytes (by omega)
  have hpy := HV5.out.pay
  rw [HOK.out.payl] at hpy
  obtain ⟨g, c, rfl, hpc, hcm⟩ := own_some hpy (by omega)
  have hpb : ∀ (i v : Nat), ((s.pay.drop bn).take nn)[i]? = some v → w5.cell? ⟨g, bn + i, none⟩ = some (u8V v) := part_cells hpy
  have hpl : nn = ((s.pay.drop bn).take nn).length := (B.part_len (by rw [HOK.out.payl]; exact hbn)).symm
  have HPB := Lib.hid hpb
  have HPL := Lib.hid hpl
  have HBY := Lib.hid (B.bytes_take (B.bytes_drop HOK.out.pay bn) nn)
  clear hpb hpl hpy
  have ib0 : (0 : Int) ≤ (bn : Int) := by omega
  have ib1 : (bn : Int) ≤ (bn : Int) + (nn : Int) := by omega
  have ib2 : (bn : Int) + (nn : Int) ≤ (c : Int) := by omega
  have ib3 : ¬ (c = bn) := by omega
  have ib4 : IntKind.i64.wrap ((bn : Int) + (nn : Int)) = (bn : Int) + (nn : Int) := IntWalk.i64_in _ (by omega)
  have ib5 : ((bn : Int) + (nn : Int)).toNat = bn + nn := by omega
  go_wp2_with fail
  refine wp_region_still_tail 17 (by kernel_rfl) (by kernel_rfl) ?_
  simp only [List.take_succ_cons, List.take_zero, List.drop_succ_cons, List.drop_zero]
  repeat (first | still_step | still_call (load_still _ _ _ _ ((s.pay.drop bn).take nn) _ _ (by exact fun i v h => HPB.out i v h) HPL.out n8 HBY.out (r := B.loadL ((s.pay.drop bn).take nn)) rfl))
  try refine wpStill_nil ?_
  go_wp2_with fail
  exact hn (k + 1) (by first | rfl | (push_cast; omega)) (by omega) (by omega) ⟨s.set an (B.loadL ((s.pay.drop bn).take nn)), VmAt.set HV5.out.drew an _, HRUN.out.step HX.out B.exec_9, HOK.out.set an _ ((B.load_lt64 HBY.out (by rw [← HPL.out]; exact n8)).1), HB5.out.drew.setCell hbR _⟩

set_option maxRecDepth 1000000 in
set_option maxHeartbeats 12800000 in
theorem case10 (Q : Exit → Act → World → Prop) (pa ia : Option Addr) (len cap pn pc im ic b off k n R G : Nat) (pv ov hv : Value) (ps : List B.Ins) (pay inp : List Nat) (s : B.St) (w wr : World) (hp : ProgAt w (some ⟨b, off, none⟩) len ps) (hinp : ListAt w ia im (inp.map u64V)) (hwi : B.Words inp) (hl : len ≤ 16384)
    (hnk : n ≤ k) (hvm : VmAt wr w.heap.size w.heap.size R G pv ov hv s n) (hrun : B.RunTo ps inp (B.start pay im) k s n) (hst : B.StOk pn im s) (hb : Below w.heap.size w wr)
    (hlt : k < len) (an bn nn mm : Nat) (hx : ps[k]? = some ⟨10, an, bn, nn, mm⟩) (hok : B.OpOk 10 an bn nn mm pn im (len - k - 1))
    (c3 c4 c5 c7 c8 c13 c14 c15 c16 c17 c18 c19 c20 c21 c22 c23 c24 c25 c26 c27 c28 c29 c30 c31 c267 u12 u32 u33 u34 u35 u36 u37 u38 u39 u40 u41 u42 u43 u44 u45 u46 u47 u48 u49 u50 u51 u52 u53 u54 u55 u56 u57 u58 u59 u60 u61 u62 u63 u64 u65 u66 u67 u68 u69 u70 u71 u72 u73 u74 u75 u76 u77 u78 u79 u80 u81 u82 u83 u84 u85 u86 u87 u88 u89 u90 u91 u92 u93 u94 u95 u96 u97 u98 u99 u100 u101 u102 u103 u104 u105 u106 u107 u108 u109 u110 u111 u112 u113 u114 u115 u116 u117 u118 u119 u120 u121 u122 u123 u124 u125 u126 u127 u128 u129 u130 u131 u132 u133 u134 u135 u136 u137 u138 u139 u140 u141 u142 u143 u144 u145 u146 u147 u148 u149 u150 u151 u152 u153 u154 u155 u156 u157 u158 u159 u160 u161 u162 u163 u164 u165 u166 u167 u168 u169 u170 u171 u172 u173 u174 u175 u176 u177 u178 u179 u180 u181 u182 u183 u184 u185 u186 u187 u188 u189 u190 u191 u192 u193 u194 u195 u196 u197 u198 u199 u200 u201 u202 u203 u204 u205 u206 u207 u208 u209 u210 u211 u212 u213 u214 u215 u216 u217 u218 u219 u220 u221 u222 u223 u224 u225 u226 u227 u228 u229 u230 u231 u232 u233 u234 u235 u236 u237 u238 u239 u240 u241 u242 u243 u244 u245 u246 u247 u248 u249 u250 u251 u252 u253 u254 u255 u256 u257 u258 u259 u260 u261 u262 u263 u264 u265 u266 : Value)
    (hn : ∀ {i : Int} (k' : Nat) {v12 v32 v33 v34 v35 v36 v37 v38 v39 v40 v41 v42 v43 v44 v45 v46 v47 v48 v49 v50 v51 v52 v53 v54 v55 v56 v57 v58 v59 v60 v61 v62 v63 v64 v65 v66 v67 v68 v69 v70 v71 v72 v73 v74 v75 v76 v77 v78 v79 v80 v81 v82 v83 v84 v85 v86 v87 v88 v89 v90 v91 v92 v93 v94 v95 v96 v97 v98 v99 v100 v101 v102 v103 v104 v105 v106 v107 v108 v109 v110 v111 v112 v113 v114 v115 v116 v117 v118 v119 v120 v121 v122 v123 v124 v125 v126 v127 v128 v129 v130 v131 v132 v133 v134 v135 v136 v137 v138 v139 v140 v141 v142 v143 v144 v145 v146 v147 v148 v149 v150 v151 v152 v153 v154 v155 v156 v157 v158 v159 v160 v161 v162 v163 v164 v165 v166 v167 v168 v169 v170 v171 v172 v173 v174 v175 v176 v177 v178 v179 v180 v181 v182 v183 v184 v185 v186 v187 v188 v189 v190 v191 v192 v193 v194 v195 v196 v197 v198 v199 v200 v201 v202 v203 v204 v205 v206 v207 v208 v209 v210 v211 v212 v213 v214 v215 v216 v217 v218 v219 v220 v221 v222 v223 v224 v225 v226 v227 v228 v229 v230 v231 v232 v233 v234 v235 v236 v237 v238 v239 v240 v241 v242 v243 v244 v245 v246 v247 v248 v249 v250 v251 v252 v253 v254 v255 v256 v257 v258 v259 v260 v261 v262 v263 v264 v265 v266 : Value} {w' : World}, i = k' → k < k' → k' ≤ len → VmRel ps pay inp pn im w R G pv ov hv k' (n + 1) w' → Q .normal ⟨#[.slice (some ⟨b, off, none⟩) len cap, .slice pa pn pc, .slice ia im ic, c3, c4, c5, .pointer (some ⟨w.heap.size, 0, none⟩), c7, c8, .pointer (some ⟨R, 0, none⟩), .pointer (some ⟨G, 0, none⟩), .int .i64 i, v12, c13, c14, c15, c16, c17, c18, c19, c20, c21, c22, c23, c24, c25, c26, c27, c28, c29, c30, c31, v32, v33, v34, v35, v36, v37, v38, v39, v40, v41, v42, v43, v44, v45, v46, v47, v48, v49, v50, v51, v52, v53, v54, v55, v56, v57, v58, v59, v60, v61, v62, v63, v64, v65, v66, v67, v68, v69, v70, v71, v72, v73, v74, v75, v76, v77, v78, v79, v80, v81, v82, v83, v84, v85, v86, v87, v88, v89, v90, v91, v92, v93, v94, v95, v96, v97, v98, v99, v100, v101, v102, v103, v104, v105, v106, v107, v108, v109, v110, v111, v112, v113, v114, v115, v116, v117, v118, v119, v120, v121, v122, v123, v124, v125, v126, v127, v128, v129, v130, v131, v132, v133, v134, v135, v136, v137, v138, v139, v140, v141, v142, v143, v144, v145, v146, v147, v148, v149, v150, v151, v152, v153, v154, v155, v156, v157, v158, v159, v160, v161, v162, v163, v164, v165, v166, v167, v168, v169, v170, v171, v172, v173, v174, v175, v176, v177, v178, v179, v180, v181, v182, v183, v184, v185, v186, v187, v188, v189, v190, v191, v192, v193, v194, v195, v196, v197, v198, v199, v200, v201, v202, v203, v204, v205, v206, v207, v208, v209, v210, v211, v212, v213, v214, v215, v216, v217, v218, v219, v220, v221, v222, v223, v224, v225, v226, v227, v228, v229, v230, v231, v232, v233, v234, v235, v236, v237, v238, v239, v240, v241, v242, v243, v244, v245, v246, v247, v248, v249, v250, v251, v252, v253, v254, v255, v256, v257, v258, v259, v260, v261, v262, v263, v264, v265, v266, c267], []⟩ w'):
    Code.wp Tryz.prog bodyRun Q ⟨#[.slice (some ⟨b, off, none⟩) len cap, .slice pa pn pc, .slice ia im ic, c3, c4, c5, .pointer (some ⟨w.heap.size, 0, none⟩), c7, c8, .pointer (some ⟨R, 0, none⟩), .pointer (some ⟨G, 0, none⟩), .int .i64 (k : Int), u12, c13, c14, c15, c16, c17, c18, c19, c20, c21, c22, c23, c24, c25, c26, c27, c28, c29, c30, c31, u32, u33, u34, u35, u36, u37, u38, u39, u40, u41, u42, u43, u44, u45, u46, u47, u48, u49, u50, u51, u52, u53, u54, u55, u56, u57, u58, u59, u60, u61, u62, u63, u64, u65, u66, u67, u68, u69, u70, u71, u72, u73, u74, u75, u76, u77, u78, u79, u80, u81, u82, u83, u84, u85, u86, u87, u88, u89, u90, u91, u92, u93, u94, u95, u96, u97, u98, u99, u100, u101, u102, u103, u104, u105, u106, u107, u108, u109, u110, u111, u112, u113, u114, u115, u116, u117, u118, u119, u120, u121, u122, u123, u124, u125, u126, u127, u128, u129, u130, u131, u132, u133, u134, u135, u136, u137, u138, u139, u140, u141, u142, u143, u144, u145, u146, u147, u148, u149, u150, u151, u152, u153, u154, u155, u156, u157, u158, u159, u160, u161, u162, u163, u164, u165, u166, u167, u168, u169, u170, u171, u172, u173, u174, u175, u176, u177, u178, u179, u180, u181, u182, u183, u184, u185, u186, u187, u188, u189, u190, u191, u192, u193, u194, u195, u196, u197, u198, u199, u200, u201, u202, u203, u204, u205, u206, u207, u208, u209, u210, u211, u212, u213, u214, u215, u216, u217, u218, u219, u220, u221, u222, u223, u224, u225, u226, u227, u228, u229, u230, u231, u232, u233, u234, u235, u236, u237, u238, u239, u240, u241, u242, u243, u244, u245, u246, u247, u248, u249, u250, u251, u252, u253, u254, u255, u256, u257, u258, u259, u260, u261, u262, u263, u264, u265, u266, c267], []⟩ wr := by
  obtain ⟨b', off', e', hbl, hat⟩ := hp.at_ k _ hx
  simp only [Option.some.injEq, Addr.mk.injEq, and_true] at e'
  obtain ⟨rfl, rfl⟩ := e'
  obtain ⟨h0, h1, h2, h3, h4⟩ := hat.below hb hbl
  simp only at h0 h1 h2 h3 h4
  have HX := Lib.hid hx
  have HV := Lib.hid hvm
  have HRUN := Lib.hid hrun
  have HOK := Lib.hid hst
  have HB := Lib.hid hb
  have HINP := Lib.hid hinp
  have HWI := Lib.hid hwi
  have hGlt : G < wr.heap.size := lt_of_block hvm.ran
  have hsz := hb.size
  have hbG := hvm.bG
  have g5 : wr.cell? ⟨G, 5, none⟩ = some (.int .i64 (n : Int)) := by rw [cell_of_row _ _ _ _ _ _ hvm.ran]; rfl
  have gf5 : wr.frozen? ⟨G, 5, none⟩ = false := frozen_blk hvm.ran
  clear hp hinp hwi hrun hst hx hat hvm hb
  conv => arg 2; whnf
  go_upto_region 12 with fail
  obtain ⟨w5, hw5⟩ : ∃ w5, ((wr.setCell ⟨G, 5, none⟩ (.int .i64 ((n : Int) + 1))).alloc (.cells #[.int .i64 10, .int .i64 (an : Int), .int .i64 (bn : Int), .int .i64 (nn : Int), .int .u64 (mm : Int)] 33)) = w5 := ⟨_, rfl⟩
  rw [hw5]
  have HV5 : Hid (VmAt w5 w.heap.size w.heap.size R G pv ov hv s (n + 1)) := by rw [← hw5]; exact HV.out.tick.alloc _
  have hI5 : InsAt w5 wr.heap.size 0 ⟨10, an, bn, nn, mm⟩ := by rw [← hw5]; exact box_tick ⟨10, an, bn, nn, mm⟩ wr G _
  have HB5 : Hid (Below w.heap.size w w5) := by rw [← hw5]; exact (HB.out.setCell hbG _).alloc (by simp; omega) _
  have hXlt : wr.heap.size < w5.heap.size := World.block_lt_of_cell? w5 _ hI5.c0
  skip
  clear hw5 h0 h1 h2 h3 h4 g5 gf5 HB HV hGlt hsz
  generalize wr.heap.size = X at *
  obtain ⟨d0, d1, d2, d3, d4⟩ := hI5
  simp only [Nat.zero_add] at d0 d1 d2 d3 d4
  obtain ⟨D, hD, hD1, hD2, hG, hbR, hbL⟩ := vm_parts HV5.out
  have HREG : Hid (∀ j, j < 16 → w5.cell? ⟨R, j, none⟩ = some (.int .u64 (s.r j : Int))) := fun j hj => by rw [cell_of_row _ _ _ _ _ _ hD]; exact hD2 j hj
  have ha15 := hok.ha
  have ia0 : (0 : Int) ≤ (an : Int) := by omega
  have ia1 : (an : Int) < 16 := by omega
  have ra := HREG.out an (by omega)
  have fr : w5.frozen? ⟨R, an, none⟩ = false := frozen_blk hD
  have c2 : w5.cell? ⟨G, 2, none⟩ = some pv := by rw [cell_of_row _ _ _ _ _ _ hG]; rfl
  have c3' : w5.cell? ⟨G, 3, none⟩ = some ov := by rw [cell_of_row _ _ _ _ _ _ hG]; rfl
  have c4' : w5.cell? ⟨G, 4, none⟩ = some hv := by rw [cell_of_row _ _ _ _ _ _ hG]; rfl
  have c5' : w5.cell? ⟨G, 5, none⟩ = some (.int .i64 ((n : Int) + 1)) := by rw [cell_of_row _ _ _ _ _ _ hG]; rfl
  skip
  clear hD hD1 hD2 hG
  obtain ⟨n1, n8, hbn⟩ := hok.bytes (by omega)
  have hpy := HV5.out.pay
  rw [HOK.out.payl] at hpy
  obtain ⟨g, c, rfl, hpc, hcm⟩ := own_some hpy (by omega)
  have hpb : ∀ (i v : Nat), ((s.pay.drop bn).take nn)[i]? = some v → w5.cell? ⟨g, bn + i, none⟩ = some (u8V v) := part_cells hpy
  have hpl : nn = ((s.pay.drop bn).take nn).length := (B.part_len (by rw [HOK.out.payl]; exact hbn)).symm
  have HPB := Lib.hid hpb
  have HPL := Lib.hid hpl
  have HBY := Lib.hid (B.bytes_take (B.bytes_drop HOK.out.pay bn) nn)
  clear hpb hpl hpy
  have ib0 : (0 : Int) ≤ (bn : Int) := by omega
  have ib1 : (bn : Int) ≤ (bn : Int) + (nn : Int) := by omega
  have ib2 : (bn : Int) + (nn : Int) ≤ (c : Int) := by omega
  have ib3 : ¬ (c = bn) := by omega
  have ib4 : IntKind.i64.wrap ((bn : Int) + (nn : Int)) = (bn : Int) + (nn : Int) := IntWalk.i64_in _ (by omega)
  have ib5 : ((bn : Int) + (nn : Int)).toNat = bn + nn := by omega
  go_wp2_with fail
  refine wp_region_still_tail 17 (by kernel_rfl) (by kernel_rfl) ?_
  simp only [List.take_succ_cons, List.take_zero, List.drop_succ_cons, List.drop_zero]
  repeat (first | still_step | still_call (load_still _ _ _ _ ((s.pay.drop bn).take nn) _ _ (by exact fun i v h => HPB.out i v h) HPL.out n8 HBY.out (r := B.loadB ((s.pay.drop bn).take nn)) rfl))
  try refine wpStill_nil ?_
  go_wp2_with fail
  exact hn (k + 1) (by first | rfl | (push_cast; omega)) (by omega) (by omega) ⟨s.set an (B.loadB ((s.pay.drop bn).take nn)), VmAt.set HV5.out.drew an _, HRUN.out.step HX.out B.exec_10, HOK.out.set an _ ((B.load_lt64 HBY.out (by rw [← HPL.out]; exact n8)).2), HB5.out.drew.setCell hbR _⟩

set_option maxRecDepth 1000000 in
set_option maxHeartbeats 12800000 in
theorem case14 (Q : Exit → Act → World → Prop) (pa ia : Option Addr) (len cap pn pc im ic b off k n R G : Nat) (pv ov hv : Value) (ps : List B.Ins) (pay inp : List Nat) (s : B.St) (w wr : World) (hp : ProgAt w (some ⟨b, off, none⟩) len ps) (hinp : ListAt w ia im (inp.map u64V)) (hwi : B.Words inp) (hl : len ≤ 16384)
    (hnk : n ≤ k) (hvm : VmAt wr w.heap.size w.heap.size R G pv ov hv s n) (hrun : B.RunTo ps inp (B.start pay im) k s n) (hst : B.StOk pn im s) (hb : Below w.heap.size w wr)
    (hlt : k < len) (an bn nn mm : Nat) (hx : ps[k]? = some ⟨14, an, bn, nn, mm⟩) (hok : B.OpOk 14 an bn nn mm pn im (len - k - 1))
    (c3 c4 c5 c7 c8 c13 c14 c15 c16 c17 c18 c19 c20 c21 c22 c23 c24 c25 c26 c27 c28 c29 c30 c31 c267 u12 u32 u33 u34 u35 u36 u37 u38 u39 u40 u41 u42 u43 u44 u45 u46 u47 u48 u49 u50 u51 u52 u53 u54 u55 u56 u57 u58 u59 u60 u61 u62 u63 u64 u65 u66 u67 u68 u69 u70 u71 u72 u73 u74 u75 u76 u77 u78 u79 u80 u81 u82 u83 u84 u85 u86 u87 u88 u89 u90 u91 u92 u93 u94 u95 u96 u97 u98 u99 u100 u101 u102 u103 u104 u105 u106 u107 u108 u109 u110 u111 u112 u113 u114 u115 u116 u117 u118 u119 u120 u121 u122 u123 u124 u125 u126 u127 u128 u129 u130 u131 u132 u133 u134 u135 u136 u137 u138 u139 u140 u141 u142 u143 u144 u145 u146 u147 u148 u149 u150 u151 u152 u153 u154 u155 u156 u157 u158 u159 u160 u161 u162 u163 u164 u165 u166 u167 u168 u169 u170 u171 u172 u173 u174 u175 u176 u177 u178 u179 u180 u181 u182 u183 u184 u185 u186 u187 u188 u189 u190 u191 u192 u193 u194 u195 u196 u197 u198 u199 u200 u201 u202 u203 u204 u205 u206 u207 u208 u209 u210 u211 u212 u213 u214 u215 u216 u217 u218 u219 u220 u221 u222 u223 u224 u225 u226 u227 u228 u229 u230 u231 u232 u233 u234 u235 u236 u237 u238 u239 u240 u241 u242 u243 u244 u245 u246 u247 u248 u249 u250 u251 u252 u253 u254 u255 u256 u257 u258 u259 u260 u261 u262 u263 u264 u265 u266 : Value)
    (hn : ∀ {i : Int} (k' : Nat) {v12 v32 v33 v34 v35 v36 v37 v38 v39 v40 v41 v42 v43 v44 v45 v46 v47 v48 v49 v50 v51 v52 v53 v54 v55 v56 v57 v58 v59 v60 v61 v62 v63 v64 v65 v66 v67 v68 v69 v70 v71 v72 v73 v74 v75 v76 v77 v78 v79 v80 v81 v82 v83 v84 v85 v86 v87 v88 v89 v90 v91 v92 v93 v94 v95 v96 v97 v98 v99 v100 v101 v102 v103 v104 v105 v106 v107 v108 v109 v110 v111 v112 v113 v114 v115 v116 v117 v118 v119 v120 v121 v122 v123 v124 v125 v126 v127 v128 v129 v130 v131 v132 v133 v134 v135 v136 v137 v138 v139 v140 v141 v142 v143 v144 v145 v146 v147 v148 v149 v150 v151 v152 v153 v154 v155 v156 v157 v158 v159 v160 v161 v162 v163 v164 v165 v166 v167 v168 v169 v170 v171 v172 v173 v174 v175 v176 v177 v178 v179 v180 v181 v182 v183 v184 v185 v186 v187 v188 v189 v190 v191 v192 v193 v194 v195 v196 v197 v198 v199 v200 v201 v202 v203 v204 v205 v206 v207 v208 v209 v210 v211 v212 v213 v214 v215 v216 v217 v218 v219 v220 v221 v222 v223 v224 v225 v226 v227 v228 v229 v230 v231 v232 v233 v234 v235 v236 v237 v238 v239 v240 v241 v242 v243 v244 v245 v246 v247 v248 v249 v250 v251 v252 v253 v254 v255 v256 v257 v258 v259 v260 v261 v262 v263 v264 v265 v266 : Value} {w' : World}, i = k' → k < k' → k' ≤ len → VmRel ps pay inp pn im w R G pv ov hv k' (n + 1) w' → Q .normal ⟨#[.slice (some ⟨b, off, none⟩) len cap, .slice pa pn pc, .slice ia im ic, c3, c4, c5, .pointer (some ⟨w.heap.size, 0, none⟩), c7, c8, .pointer (some ⟨R, 0, none⟩), .pointer (some ⟨G, 0, none⟩), .int .i64 i, v12, c13, c14, c15, c16, c17, c18, c19, c20, c21, c22, c23, c24, c25, c26, c27, c28, c29, c30, c31, v32, v33, v34, v35, v36, v37, v38, v39, v40, v41, v42, v43, v44, v45, v46, v47, v48, v49, v50, v51, v52, v53, v54, v55, v56, v57, v58, v59, v60, v61, v62, v63, v64, v65, v66, v67, v68, v69, v70, v71, v72, v73, v74, v75, v76, v77, v78, v79, v80, v81, v82, v83, v84, v85, v86, v87, v88, v89, v90, v91, v92, v93, v94, v95, v96, v97, v98, v99, v100, v101, v102, v103, v104, v105, v106, v107, v108, v109, v110, v111, v112, v113, v114, v115, v116, v117, v118, v119, v120, v121, v122, v123, v124, v125, v126, v127, v128, v129, v130, v131, v132, v133, v134, v135, v136, v137, v138, v139, v140, v141, v142, v143, v144, v145, v146, v147, v148, v149, v150, v151, v152, v153, v154, v155, v156, v157, v158, v159, v160, v161, v162, v163, v164, v165, v166, v167, v168, v169, v170, v171, v172, v173, v174, v175, v176, v177, v178, v179, v180, v181, v182, v183, v184, v185, v186, v187, v188, v189, v190, v191, v192, v193, v194, v195, v196, v197, v198, v199, v200, v201, v202, v203, v204, v205, v206, v207, v208, v209, v210, v211, v212, v213, v214, v215, v216, v217, v218, v219, v220, v221, v222, v223, v224, v225, v226, v227, v228, v229, v230, v231, v232, v233, v234, v235, v236, v237, v238, v239, v240, v241, v242, v243, v244, v245, v246, v247, v248, v249, v250, v251, v252, v253, v254, v255, v256, v257, v258, v259, v260, v261, v262, v263, v264, v265, v266, c267], []⟩ w'):
    Code.wp Tryz.prog bodyRun Q ⟨#[.slice (some ⟨b, off, none⟩) len cap, .slice pa pn pc, .slice ia im ic, c3, c4, c5, .pointer (some ⟨w.heap.size, 0, none⟩), c7, c8, .pointer (some ⟨R, 0, none⟩), .pointer (some ⟨G, 0, none⟩), .int .i64 (k : Int), u12, c13, c14, c15, c16, c17, c18, c19, c20, c21, c22, c23, c24, c25, c26, c27, c28, c29, c30, c31, u32, u33, u34, u35, u36, u37, u38, u39, u40, u41, u42, u43, u44, u45, u46, u47, u48, u49, u50, u51, u52, u53, u54, u55, u56, u57, u58, u59, u60, u61, u62, u63, u64, u65, u66, u67, u68, u69, u70, u71, u72, u73, u74, u75, u76, u77, u78, u79, u80, u81, u82, u83, u84, u85, u86, u87, u88, u89, u90, u91, u92, u93, u94, u95, u96, u97, u98, u99, u100, u101, u102, u103, u104, u105, u106, u107, u108, u109, u110, u111, u112, u113, u114, u115, u116, u117, u118, u119, u120, u121, u122, u123, u124, u125, u126, u127, u128, u129, u130, u131, u132, u133, u134, u135, u136, u137, u138, u139, u140, u141, u142, u143, u144, u145, u146, u147, u148, u149, u150, u151, u152, u153, u154, u155, u156, u157, u158, u159, u160, u161, u162, u163, u164, u165, u166, u167, u168, u169, u170, u171, u172, u173, u174, u175, u176, u177, u178, u179, u180, u181, u182, u183, u184, u185, u186, u187, u188, u189, u190, u191, u192, u193, u194, u195, u196, u197, u198, u199, u200, u201, u202, u203, u204, u205, u206, u207, u208, u209, u210, u211, u212, u213, u214, u215, u216, u217, u218, u219, u220, u221, u222, u223, u224, u225, u226, u227, u228, u229, u230, u231, u232, u233, u234, u235, u236, u237, u238, u239, u240, u241, u242, u243, u244, u245, u246, u247, u248, u249, u250, u251, u252, u253, u254, u255, u256, u257, u258, u259, u260, u261, u262, u263, u264, u265, u266, c267], []⟩ wr := by
  obtain ⟨b', off', e', hbl, hat⟩ := hp.at_ k _ hx
  simp only [Option.some.injEq, Addr.mk.injEq, and_true] at e'
  obtain ⟨rfl, rfl⟩ := e'
  obtain ⟨h0, h1, h2, h3, h4⟩ := hat.below hb hbl
  simp only at h0 h1 h2 h3 h4
  have HX := Lib.hid hx
  have HV := Lib.hid hvm
  have HRUN := Lib.hid hrun
  have HOK := Lib.hid hst
  have HB := Lib.hid hb
  have HINP := Lib.hid hinp
  have HWI := Lib.hid hwi
  have hGlt : G < wr.heap.size := lt_of_block hvm.ran
  have hsz := hb.size
  have hbG := hvm.bG
  have g5 : wr.cell? ⟨G, 5, none⟩ = some (.int .i64 (n : Int)) := by rw [cell_of_row _ _ _ _ _ _ hvm.ran]; rfl
  have gf5 : wr.frozen? ⟨G, 5, none⟩ = false := frozen_blk hvm.ran
  clear hp hinp hwi hrun hst hx hat hvm hb
  conv => arg 2; whnf
  go_upto_region 12 with fail
  obtain ⟨w5, hw5⟩ : ∃ w5, ((wr.setCell ⟨G, 5, none⟩ (.int .i64 ((n : Int) + 1))).alloc (.cells #[.int .i64 14, .int .i64 (an : Int), .int .i64 (bn : Int), .int .i64 (nn : Int), .int .u64 (mm : Int)] 33)) = w5 := ⟨_, rfl⟩
  rw [hw5]
  have HV5 : Hid (VmAt w5 w.heap.size w.heap.size R G pv ov hv s (n + 1)) := by rw [← hw5]; exact HV.out.tick.alloc _
  have hI5 : InsAt w5 wr.heap.size 0 ⟨14, an, bn, nn, mm⟩ := by rw [← hw5]; exact box_tick ⟨14, an, bn, nn, mm⟩ wr G _
  have HB5 : Hid (Below w.heap.size w w5) := by rw [← hw5]; exact (HB.out.setCell hbG _).alloc (by simp; omega) _
  have hXlt : wr.heap.size < w5.heap.size := World.block_lt_of_cell? w5 _ hI5.c0
  skip
  clear hw5 h0 h1 h2 h3 h4 g5 gf5 HB HV hGlt hsz
  generalize wr.heap.size = X at *
  obtain ⟨d0, d1, d2, d3, d4⟩ := hI5
  simp only [Nat.zero_add] at d0 d1 d2 d3 d4
  obtain ⟨D, hD, hD1, hD2, hG, hbR, hbL⟩ := vm_parts HV5.out
  have HREG : Hid (∀ j, j < 16 → w5.cell? ⟨R, j, none⟩ = some (.int .u64 (s.r j : Int))) := fun j hj => by rw [cell_of_row _ _ _ _ _ _ hD]; exact hD2 j hj
  have ha15 := hok.ha
  have ia0 : (0 : Int) ≤ (an : Int) := by omega
  have ia1 : (an : Int) < 16 := by omega
  have ra := HREG.out an (by omega)
  have fr : w5.frozen? ⟨R, an, none⟩ = false := frozen_blk hD
  have c2 : w5.cell? ⟨G, 2, none⟩ = some pv := by rw [cell_of_row _ _ _ _ _ _ hG]; rfl
  have c3' : w5.cell? ⟨G, 3, none⟩ = some ov := by rw [cell_of_row _ _ _ _ _ _ hG]; rfl
  have c4' : w5.cell? ⟨G, 4, none⟩ = some hv := by rw [cell_of_row _ _ _ _ _ _ hG]; rfl
  have c5' : w5.cell? ⟨G, 5, none⟩ = some (.int .i64 ((n : Int) + 1)) := by rw [cell_of_row _ _ _ _ _ _ hG]; rfl
  skip
  clear hD hD1 hD2 hG
  obtain ⟨n1, n64⟩ := hok.width (by omega)
  go_wp2_with fail
  refine wp_region_still_tail 10 (by kernel_rfl) (by kernel_rfl) ?_
  simp only [List.take_succ_cons, List.take_zero, List.drop_succ_cons, List.drop_zero]
  repeat (first | still_step | still_call (extend_still (s.r an) nn true _ n1 n64 (HOK.out.reg an)))
  try refine wpStill_nil ?_
  go_wp2_with fail
  exact hn (k + 1) (by first | rfl | (push_cast; omega)) (by omega) (by omega) ⟨s.set an (B.extend (s.r an) nn true), VmAt.set HV5.out.drew an _, HRUN.out.step HX.out B.exec_14, HOK.out.set an _ (B.extend_lt true n64 (HOK.out.reg an)), HB5.out.drew.setCell hbR _⟩

set_option maxRecDepth 1000000 in
set_option maxHeartbeats 12800000 in
theorem case15 (Q : Exit → Act → World → Prop) (pa ia : Option Addr) (len cap pn pc im ic b off k n R G : Nat) (pv ov hv : Value) (ps : List B.Ins) (pay inp : List Nat) (s : B.St) (w wr : World) (hp : ProgAt w (some ⟨b, off, none⟩) len ps) (hinp : ListAt w ia im (inp.map u64V)) (hwi : B.Words inp) (hl : len ≤ 16384)
    (hnk : n ≤ k) (hvm : VmAt wr w.heap.size w.heap.size R G pv ov hv s n) (hrun : B.RunTo ps inp (B.start pay im) k s n) (hst : B.StOk pn im s) (hb : Below w.heap.size w wr)
    (hlt : k < len) (an bn nn mm : Nat) (hx : ps[k]? = some ⟨15, an, bn, nn, mm⟩) (hok : B.OpOk 15 an bn nn mm pn im (len - k - 1))
    (c3 c4 c5 c7 c8 c13 c14 c15 c16 c17 c18 c19 c20 c21 c22 c23 c24 c25 c26 c27 c28 c29 c30 c31 c267 u12 u32 u33 u34 u35 u36 u37 u38 u39 u40 u41 u42 u43 u44 u45 u46 u47 u48 u49 u50 u51 u52 u53 u54 u55 u56 u57 u58 u59 u60 u61 u62 u63 u64 u65 u66 u67 u68 u69 u70 u71 u72 u73 u74 u75 u76 u77 u78 u79 u80 u81 u82 u83 u84 u85 u86 u87 u88 u89 u90 u91 u92 u93 u94 u95 u96 u97 u98 u99 u100 u101 u102 u103 u104 u105 u106 u107 u108 u109 u110 u111 u112 u113 u114 u115 u116 u117 u118 u119 u120 u121 u122 u123 u124 u125 u126 u127 u128 u129 u130 u131 u132 u133 u134 u135 u136 u137 u138 u139 u140 u141 u142 u143 u144 u145 u146 u147 u148 u149 u150 u151 u152 u153 u154 u155 u156 u157 u158 u159 u160 u161 u162 u163 u164 u165 u166 u167 u168 u169 u170 u171 u172 u173 u174 u175 u176 u177 u178 u179 u180 u181 u182 u183 u184 u185 u186 u187 u188 u189 u190 u191 u192 u193 u194 u195 u196 u197 u198 u199 u200 u201 u202 u203 u204 u205 u206 u207 u208 u209 u210 u211 u212 u213 u214 u215 u216 u217 u218 u219 u220 u221 u222 u223 u224 u225 u226 u227 u228 u229 u230 u231 u232 u233 u234 u235 u236 u237 u238 u239 u240 u241 u242 u243 u244 u245 u246 u247 u248 u249 u250 u251 u252 u253 u254 u255 u256 u257 u258 u259 u260 u261 u262 u263 u264 u265 u266 : Value)
    (hn : ∀ {i : Int} (k' : Nat) {v12 v32 v33 v34 v35 v36 v37 v38 v39 v40 v41 v42 v43 v44 v45 v46 v47 v48 v49 v50 v51 v52 v53 v54 v55 v56 v57 v58 v59 v60 v61 v62 v63 v64 v65 v66 v67 v68 v69 v70 v71 v72 v73 v74 v75 v76 v77 v78 v79 v80 v81 v82 v83 v84 v85 v86 v87 v88 v89 v90 v91 v92 v93 v94 v95 v96 v97 v98 v99 v100 v101 v102 v103 v104 v105 v106 v107 v108 v109 v110 v111 v112 v113 v114 v115 v116 v117 v118 v119 v120 v121 v122 v123 v124 v125 v126 v127 v128 v129 v130 v131 v132 v133 v134 v135 v136 v137 v138 v139 v140 v141 v142 v143 v144 v145 v146 v147 v148 v149 v150 v151 v152 v153 v154 v155 v156 v157 v158 v159 v160 v161 v162 v163 v164 v165 v166 v167 v168 v169 v170 v171 v172 v173 v174 v175 v176 v177 v178 v179 v180 v181 v182 v183 v184 v185 v186 v187 v188 v189 v190 v191 v192 v193 v194 v195 v196 v197 v198 v199 v200 v201 v202 v203 v204 v205 v206 v207 v208 v209 v210 v211 v212 v213 v214 v215 v216 v217 v218 v219 v220 v221 v222 v223 v224 v225 v226 v227 v228 v229 v230 v231 v232 v233 v234 v235 v236 v237 v238 v239 v240 v241 v242 v243 v244 v245 v246 v247 v248 v249 v250 v251 v252 v253 v254 v255 v256 v257 v258 v259 v260 v261 v262 v263 v264 v265 v266 : Value} {w' : World}, i = k' → k < k' → k' ≤ len → VmRel ps pay inp pn im w R G pv ov hv k' (n + 1) w' → Q .normal ⟨#[.slice (some ⟨b, off, none⟩) len cap, .slice pa pn pc, .slice ia im ic, c3, c4, c5, .pointer (some ⟨w.heap.size, 0, none⟩), c7, c8, .pointer (some ⟨R, 0, none⟩), .pointer (some ⟨G, 0, none⟩), .int .i64 i, v12, c13, c14, c15, c16, c17, c18, c19, c20, c21, c22, c23, c24, c25, c26, c27, c28, c29, c30, c31, v32, v33, v34, v35, v36, v37, v38, v39, v40, v41, v42, v43, v44, v45, v46, v47, v48, v49, v50, v51, v52, v53, v54, v55, v56, v57, v58, v59, v60, v61, v62, v63, v64, v65, v66, v67, v68, v69, v70, v71, v72, v73, v74, v75, v76, v77, v78, v79, v80, v81, v82, v83, v84, v85, v86, v87, v88, v89, v90, v91, v92, v93, v94, v95, v96, v97, v98, v99, v100, v101, v102, v103, v104, v105, v106, v107, v108, v109, v110, v111, v112, v113, v114, v115, v116, v117, v118, v119, v120, v121, v122, v123, v124, v125, v126, v127, v128, v129, v130, v131, v132, v133, v134, v135, v136, v137, v138, v139, v140, v141, v142, v143, v144, v145, v146, v147, v148, v149, v150, v151, v152, v153, v154, v155, v156, v157, v158, v159, v160, v161, v162, v163, v164, v165, v166, v167, v168, v169, v170, v171, v172, v173, v174, v175, v176, v177, v178, v179, v180, v181, v182, v183, v184, v185, v186, v187, v188, v189, v190, v191, v192, v193, v194, v195, v196, v197, v198, v199, v200, v201, v202, v203, v204, v205, v206, v207, v208, v209, v210, v211, v212, v213, v214, v215, v216, v217, v218, v219, v220, v221, v222, v223, v224, v225, v226, v227, v228, v229, v230, v231, v232, v233, v234, v235, v236, v237, v238, v239, v240, v241, v242, v243, v244, v245, v246, v247, v248, v249, v250, v251, v252, v253, v254, v255, v256, v257, v258, v259, v260, v261, v262, v263, v264, v265, v266, c267], []⟩ w'):
    Code.wp Tryz.prog bodyRun Q ⟨#[.slice (some ⟨b, off, none⟩) len cap, .slice pa pn pc, .slice ia im ic, c3, c4, c5, .pointer (some ⟨w.heap.size, 0, none⟩), c7, c8, .pointer (some ⟨R, 0, none⟩), .pointer (some ⟨G, 0, none⟩), .int .i64 (k : Int), u12, c13, c14, c15, c16, c17, c18, c19, c20, c21, c22, c23, c24, c25, c26, c27, c28, c29, c30, c31, u32, u33, u34, u35, u36, u37, u38, u39, u40, u41, u42, u43, u44, u45, u46, u47, u48, u49, u50, u51, u52, u53, u54, u55, u56, u57, u58, u59, u60, u61, u62, u63, u64, u65, u66, u67, u68, u69, u70, u71, u72, u73, u74, u75, u76, u77, u78, u79, u80, u81, u82, u83, u84, u85, u86, u87, u88, u89, u90, u91, u92, u93, u94, u95, u96, u97, u98, u99, u100, u101, u102, u103, u104, u105, u106, u107, u108, u109, u110, u111, u112, u113, u114, u115, u116, u117, u118, u119, u120, u121, u122, u123, u124, u125, u126, u127, u128, u129, u130, u131, u132, u133, u134, u135, u136, u137, u138, u139, u140, u141, u142, u143, u144, u145, u146, u147, u148, u149, u150, u151, u152, u153, u154, u155, u156, u157, u158, u159, u160, u161, u162, u163, u164, u165, u166, u167, u168, u169, u170, u171, u172, u173, u174, u175, u176, u177, u178, u179, u180, u181, u182, u183, u184, u185, u186, u187, u188, u189, u190, u191, u192, u193, u194, u195, u196, u197, u198, u199, u200, u201, u202, u203, u204, u205, u206, u207, u208, u209, u210, u211, u212, u213, u214, u215, u216, u217, u218, u219, u220, u221, u222, u223, u224, u225, u226, u227, u228, u229, u230, u231, u232, u233, u234, u235, u236, u237, u238, u239, u240, u241, u242, u243, u244, u245, u246, u247, u248, u249, u250, u251, u252, u253, u254, u255, u256, u257, u258, u259, u260, u261, u262, u263, u264, u265, u266, c267], []⟩ wr := by
  obtain ⟨b', off', e', hbl, hat⟩ := hp.at_ k _ hx
  simp only [Option.some.injEq, Addr.mk.injEq, and_true] at e'
  obtain ⟨rfl, rfl⟩ := e'
  obtain ⟨h0, h1, h2, h3, h4⟩ := hat.below hb hbl
  simp only at h0 h1 h2 h3 h4
  have HX := Lib.hid hx
  have HV := Lib.hid hvm
  have HRUN := Lib.hid hrun
  have HOK := Lib.hid hst
  have HB := Lib.hid hb
  have HINP := Lib.hid hinp
  have HWI := Lib.hid hwi
  have hGlt : G < wr.heap.size := lt_of_block hvm.ran
  have hsz := hb.size
  have hbG := hvm.bG
  have g5 : wr.cell? ⟨G, 5, none⟩ = some (.int .i64 (n : Int)) := by rw [cell_of_row _ _ _ _ _ _ hvm.ran]; rfl
  have gf5 : wr.frozen? ⟨G, 5, none⟩ = false := frozen_blk hvm.ran
  clear hp hinp hwi hrun hst hx hat hvm hb
  conv => arg 2; whnf
  go_upto_region 12 with fail
  obtain ⟨w5, hw5⟩ : ∃ w5, ((wr.setCell ⟨G, 5, none⟩ (.int .i64 ((n : Int) + 1))).alloc (.cells #[.int .i64 15, .int .i64 (an : Int), .int .i64 (bn : Int), .int .i64 (nn : Int), .int .u64 (mm : Int)] 33)) = w5 := ⟨_, rfl⟩
  rw [hw5]
  have HV5 : Hid (VmAt w5 w.heap.size w.heap.size R G pv ov hv s (n + 1)) := by rw [← hw5]; exact HV.out.tick.alloc _
  have hI5 : InsAt w5 wr.heap.size 0 ⟨15, an, bn, nn, mm⟩ := by rw [← hw5]; exact box_tick ⟨15, an, bn, nn, mm⟩ wr G _
  have HB5 : Hid (Below w.heap.size w w5) := by rw [← hw5]; exact (HB.out.setCell hbG _).alloc (by simp; omega) _
  have hXlt : wr.heap.size < w5.heap.size := World.block_lt_of_cell? w5 _ hI5.c0
  skip
  clear hw5 h0 h1 h2 h3 h4 g5 gf5 HB HV hGlt hsz
  generalize wr.heap.size = X at *
  obtain ⟨d0, d1, d2, d3, d4⟩ := hI5
  simp only [Nat.zero_add] at d0 d1 d2 d3 d4
  obtain ⟨D, hD, hD1, hD2, hG, hbR, hbL⟩ := vm_parts HV5.out
  have HREG : Hid (∀ j, j < 16 → w5.cell? ⟨R, j, none⟩ = some (.int .u64 (s.r j : Int))) := fun j hj => by rw [cell_of_row _ _ _ _ _ _ hD]; exact hD2 j hj
  have ha15 := hok.ha
  have ia0 : (0 : Int) ≤ (an : Int) := by omega
  have ia1 : (an : Int) < 16 := by omega
  have ra := HREG.out an (by omega)
  have fr : w5.frozen? ⟨R, an, none⟩ = false := frozen_blk hD
  have c2 : w5.cell? ⟨G, 2, none⟩ = some pv := by rw [cell_of_row _ _ _ _ _ _ hG]; rfl
  have c3' : w5.cell? ⟨G, 3, none⟩ = some ov := by rw [cell_of_row _ _ _ _ _ _ hG]; rfl
  have c4' : w5.cell? ⟨G, 4, none⟩ = some hv := by rw [cell_of_row _ _ _ _ _ _ hG]; rfl
  have c5' : w5.cell? ⟨G, 5, none⟩ = some (.int .i64 ((n : Int) + 1)) := by rw [cell_of_row _ _ _ _ _ _ hG]; rfl
  skip
  clear hD hD1 hD2 hG
  have hsl := hok.slot (by omega)
  have hil := HINP.out.len
  rw [List.length_map] at hil
  have hvi : (inp.map u64V)[bn]? = some (u64V (inp.getD bn 0)) := by rw [List.getElem?_map, List.getD_eq_getElem?_getD, List.getElem?_eq_getElem (by omega)]; rfl
  obtain ⟨ib, io, rfl, hib, hic⟩ := HINP.out.at_ bn _ hvi
  replace hic := (HB5.out.cell (p := ⟨ib, io + bn, none⟩) hib).trans hic
  clear hvi hil
  unfold u64V at hic
  have jb0 : (0 : Int) ≤ (bn : Int) := by omega
  have jb1 : (bn : Int) < (im : Int) := by omega
  go_wp2_with fail
  go_still_tail 8, (by kernel_rfl)
  go_wp2_with fail
  exact hn (k + 1) (by first | rfl | (push_cast; omega)) (by omega) (by omega) ⟨s.set an (inp.getD bn 0), VmAt.set HV5.out.drew an _, HRUN.out.step HX.out B.exec_15, HOK.out.set an _ (B.mem_getD HWI.out bn), HB5.out.drew.setCell hbR _⟩

set_option maxRecDepth 1000000 in
set_option maxHeartbeats 12800000 in
theorem case19 (Q : Exit → Act → World → Prop) (pa ia : Option Addr) (len cap pn pc im ic b off k n R G : Nat) (pv ov hv : Value) (ps : List B.Ins) (pay inp : List Nat) (s : B.St) (w wr : World) (hp : ProgAt w (some ⟨b, off, none⟩) len ps) (hinp : ListAt w ia im (inp.map u64V)) (hwi : B.Words inp) (hl : len ≤ 16384)
    (hnk : n ≤ k) (hvm : VmAt wr w.heap.size w.heap.size R G pv ov hv s n) (hrun : B.RunTo ps inp (B.start pay im) k s n) (hst : B.StOk pn im s) (hb : Below w.heap.size w wr)
    (hlt : k < len) (an bn nn mm : Nat) (hx : ps[k]? = some ⟨19, an, bn, nn, mm⟩) (hok : B.OpOk 19 an bn nn mm pn im (len - k - 1))
    (c3 c4 c5 c7 c8 c13 c14 c15 c16 c17 c18 c19 c20 c21 c22 c23 c24 c25 c26 c27 c28 c29 c30 c31 c267 u12 u32 u33 u34 u35 u36 u37 u38 u39 u40 u41 u42 u43 u44 u45 u46 u47 u48 u49 u50 u51 u52 u53 u54 u55 u56 u57 u58 u59 u60 u61 u62 u63 u64 u65 u66 u67 u68 u69 u70 u71 u72 u73 u74 u75 u76 u77 u78 u79 u80 u81 u82 u83 u84 u85 u86 u87 u88 u89 u90 u91 u92 u93 u94 u95 u96 u97 u98 u99 u100 u101 u102 u103 u104 u105 u106 u107 u108 u109 u110 u111 u112 u113 u114 u115 u116 u117 u118 u119 u120 u121 u122 u123 u124 u125 u126 u127 u128 u129 u130 u131 u132 u133 u134 u135 u136 u137 u138 u139 u140 u141 u142 u143 u144 u145 u146 u147 u148 u149 u150 u151 u152 u153 u154 u155 u156 u157 u158 u159 u160 u161 u162 u163 u164 u165 u166 u167 u168 u169 u170 u171 u172 u173 u174 u175 u176 u177 u178 u179 u180 u181 u182 u183 u184 u185 u186 u187 u188 u189 u190 u191 u192 u193 u194 u195 u196 u197 u198 u199 u200 u201 u202 u203 u204 u205 u206 u207 u208 u209 u210 u211 u212 u213 u214 u215 u216 u217 u218 u219 u220 u221 u222 u223 u224 u225 u226 u227 u228 u229 u230 u231 u232 u233 u234 u235 u236 u237 u238 u239 u240 u241 u242 u243 u244 u245 u246 u247 u248 u249 u250 u251 u252 u253 u254 u255 u256 u257 u258 u259 u260 u261 u262 u263 u264 u265 u266 : Value)
    (hn : ∀ {i : Int} (k' : Nat) {v12 v32 v33 v34 v35 v36 v37 v38 v39 v40 v41 v42 v43 v44 v45 v46 v47 v48 v49 v50 v51 v52 v53 v54 v55 v56 v57 v58 v59 v60 v61 v62 v63 v64 v65 v66 v67 v68 v69 v70 v71 v72 v73 v74 v75 v76 v77 v78 v79 v80 v81 v82 v83 v84 v85 v86 v87 v88 v89 v90 v91 v92 v93 v94 v95 v96 v97 v98 v99 v100 v101 v102 v103 v104 v105 v106 v107 v108 v109 v110 v111 v112 v113 v114 v115 v116 v117 v118 v119 v120 v121 v122 v123 v124 v125 v126 v127 v128 v129 v130 v131 v132 v133 v134 v135 v136 v137 v138 v139 v140 v141 v142 v143 v144 v145 v146 v147 v148 v149 v150 v151 v152 v153 v154 v155 v156 v157 v158 v159 v160 v161 v162 v163 v164 v165 v166 v167 v168 v169 v170 v171 v172 v173 v174 v175 v176 v177 v178 v179 v180 v181 v182 v183 v184 v185 v186 v187 v188 v189 v190 v191 v192 v193 v194 v195 v196 v197 v198 v199 v200 v201 v202 v203 v204 v205 v206 v207 v208 v209 v210 v211 v212 v213 v214 v215 v216 v217 v218 v219 v220 v221 v222 v223 v224 v225 v226 v227 v228 v229 v230 v231 v232 v233 v234 v235 v236 v237 v238 v239 v240 v241 v242 v243 v244 v245 v246 v247 v248 v249 v250 v251 v252 v253 v254 v255 v256 v257 v258 v259 v260 v261 v262 v263 v264 v265 v266 : Value} {w' : World}, i = k' → k < k' → k' ≤ len → VmRel ps pay inp pn im w R G pv ov hv k' (n + 1) w' → Q .normal ⟨#[.slice (some ⟨b, off, none⟩) len cap, .slice pa pn pc, .slice ia im ic, c3, c4, c5, .pointer (some ⟨w.heap.size, 0, none⟩), c7, c8, .pointer (some ⟨R, 0, none⟩), .pointer (some ⟨G, 0, none⟩), .int .i64 i, v12, c13, c14, c15, c16, c17, c18, c19, c20, c21, c22, c23, c24, c25, c26, c27, c28, c29, c30, c31, v32, v33, v34, v35, v36, v37, v38, v39, v40, v41, v42, v43, v44, v45, v46, v47, v48, v49, v50, v51, v52, v53, v54, v55, v56, v57, v58, v59, v60, v61, v62, v63, v64, v65, v66, v67, v68, v69, v70, v71, v72, v73, v74, v75, v76, v77, v78, v79, v80, v81, v82, v83, v84, v85, v86, v87, v88, v89, v90, v91, v92, v93, v94, v95, v96, v97, v98, v99, v100, v101, v102, v103, v104, v105, v106, v107, v108, v109, v110, v111, v112, v113, v114, v115, v116, v117, v118, v119, v120, v121, v122, v123, v124, v125, v126, v127, v128, v129, v130, v131, v132, v133, v134, v135, v136, v137, v138, v139, v140, v141, v142, v143, v144, v145, v146, v147, v148, v149, v150, v151, v152, v153, v154, v155, v156, v157, v158, v159, v160, v161, v162, v163, v164, v165, v166, v167, v168, v169, v170, v171, v172, v173, v174, v175, v176, v177, v178, v179, v180, v181, v182, v183, v184, v185, v186, v187, v188, v189, v190, v191, v192, v193, v194, v195, v196, v197, v198, v199, v200, v201, v202, v203, v204, v205, v206, v207, v208, v209, v210, v211, v212, v213, v214, v215, v216, v217, v218, v219, v220, v221, v222, v223, v224, v225, v226, v227, v228, v229, v230, v231, v232, v233, v234, v235, v236, v237, v238, v239, v240, v241, v242, v243, v244, v245, v246, v247, v248, v249, v250, v251, v252, v253, v254, v255, v256, v257, v258, v259, v260, v261, v262, v263, v264, v265, v266, c267], []⟩ w'):
    Code.wp Tryz.prog bodyRun Q ⟨#[.slice (some ⟨b, off, none⟩) len cap, .slice pa pn pc, .slice ia im ic, c3, c4, c5, .pointer (some ⟨w.heap.size, 0, none⟩), c7, c8, .pointer (some ⟨R, 0, none⟩), .pointer (some ⟨G, 0, none⟩), .int .i64 (k : Int), u12, c13, c14, c15, c16, c17, c18, c19, c20, c21, c22, c23, c24, c25, c26, c27, c28, c29, c30, c31, u32, u33, u34, u35, u36, u37, u38, u39, u40, u41, u42, u43, u44, u45, u46, u47, u48, u49, u50, u51, u52, u53, u54, u55, u56, u57, u58, u59, u60, u61, u62, u63, u64, u65, u66, u67, u68, u69, u70, u71, u72, u73, u74, u75, u76, u77, u78, u79, u80, u81, u82, u83, u84, u85, u86, u87, u88, u89, u90, u91, u92, u93, u94, u95, u96, u97, u98, u99, u100, u101, u102, u103, u104, u105, u106, u107, u108, u109, u110, u111, u112, u113, u114, u115, u116, u117, u118, u119, u120, u121, u122, u123, u124, u125, u126, u127, u128, u129, u130, u131, u132, u133, u134, u135, u136, u137, u138, u139, u140, u141, u142, u143, u144, u145, u146, u147, u148, u149, u150, u151, u152, u153, u154, u155, u156, u157, u158, u159, u160, u161, u162, u163, u164, u165, u166, u167, u168, u169, u170, u171, u172, u173, u174, u175, u176, u177, u178, u179, u180, u181, u182, u183, u184, u185, u186, u187, u188, u189, u190, u191, u192, u193, u194, u195, u196, u197, u198, u199, u200, u201, u202, u203, u204, u205, u206, u207, u208, u209, u210, u211, u212, u213, u214, u215, u216, u217, u218, u219, u220, u221, u222, u223, u224, u225, u226, u227, u228, u229, u230, u231, u232, u233, u234, u235, u236, u237, u238, u239, u240, u241, u242, u243, u244, u245, u246, u247, u248, u249, u250, u251, u252, u253, u254, u255, u256, u257, u258, u259, u260, u261, u262, u263, u264, u265, u266, c267], []⟩ wr := by
  obtain ⟨b', off', e', hbl, hat⟩ := hp.at_ k _ hx
  simp only [Option.some.injEq, Addr.mk.injEq, and_true] at e'
  obtain ⟨rfl, rfl⟩ := e'
  obtain ⟨h0, h1, h2, h3, h4⟩ := hat.below hb hbl
  simp only at h0 h1 h2 h3 h4
  have HX := Lib.hid hx
  have HV := Lib.hid hvm
  have HRUN := Lib.hid hrun
  have HOK := Lib.hid hst
  have HB := Lib.hid hb
  have HINP := Lib.hid hinp
  have HWI := Lib.hid hwi
  have hGlt : G < wr.heap.size := lt_of_block hvm.ran
  have hsz := hb.size
  have hbG := hvm.bG
  have g5 : wr.cell? ⟨G, 5, none⟩ = some (.int .i64 (n : Int)) := by rw [cell_of_row _ _ _ _ _ _ hvm.ran]; rfl
  have gf5 : wr.frozen? ⟨G, 5, none⟩ = false := frozen_blk hvm.ran
  clear hp hinp hwi hrun hst hx hat hvm hb
  conv => arg 2; whnf
  go_upto_region 12 with fail
  obtain ⟨w5, hw5⟩ : ∃ w5, ((wr.setCell ⟨G, 5, none⟩ (.int .i64 ((n : Int) + 1))).alloc (.cells #[.int .i64 19, .int .i64 (an : Int), .int .i64 (bn : Int), .int .i64 (nn : Int), .int .u64 (mm : Int)] 33)) = w5 := ⟨_, rfl⟩
  rw [hw5]
  have HV5 : Hid (VmAt w5 w.heap.size w.heap.size R G pv ov hv s (n + 1)) := by rw [← hw5]; exact HV.out.tick.alloc _
  have hI5 : InsAt w5 wr.heap.size 0 ⟨19, an, bn, nn, mm⟩ := by rw [← hw5]; exact box_tick ⟨19, an, bn, nn, mm⟩ wr G _
  have HB5 : Hid (Below w.heap.size w w5) := by rw [← hw5]; exact (HB.out.setCell hbG _).alloc (by simp; omega) _
  have hXlt : wr.heap.size < w5.heap.size := World.block_lt_of_cell? w5 _ hI5.c0
  skip
  clear hw5 h0 h1 h2 h3 h4 g5 gf5 HB HV hGlt hsz
  generalize wr.heap.size = X at *
  obtain ⟨d0, d1, d2, d3, d4⟩ := hI5
  simp only [Nat.zero_add] at d0 d1 d2 d3 d4
  obtain ⟨D, hD, hD1, hD2, hG, hbR, hbL⟩ := vm_parts HV5.out
  have HREG : Hid (∀ j, j < 16 → w5.cell? ⟨R, j, none⟩ = some (.int .u64 (s.r j : Int))) := fun j hj => by rw [cell_of_row _ _ _ _ _ _ hD]; exact hD2 j hj
  have ha15 := hok.ha
  have ia0 : (0 : Int) ≤ (an : Int) := by omega
  have ia1 : (an : Int) < 16 := by omega
  have ra := HREG.out an (by omega)
  have fr : w5.frozen? ⟨R, an, none⟩ = false := frozen_blk hD
  have c2 : w5.cell? ⟨G, 2, none⟩ = some pv := by rw [cell_of_row _ _ _ _ _ _ hG]; rfl
  have c3' : w5.cell? ⟨G, 3, none⟩ = some ov := by rw [cell_of_row _ _ _ _ _ _ hG]; rfl
  have c4' : w5.cell? ⟨G, 4, none⟩ = some hv := by rw [cell_of_row _ _ _ _ _ _ hG]; rfl
  have c5' : w5.cell? ⟨G, 5, none⟩ = some (.int .i64 ((n : Int) + 1)) := by rw [cell_of_row _ _ _ _ _ _ hG]; rfl
  skip
  clear hD hD1 hD2 hG
  have hj := hok.jump (by omega)
  by_cases hne : s.r an = mm
  · have q1 : ((s.r an : Int) != (mm : Int)) = false := by simp; omega
    have HNE := Lib.hid hne
    clear hne
    go_wp2_with fail
    refine wp_region_still_lit (by kernel_rfl) (by kernel_rfl) ?_
    repeat still_step
    refine wpStill_nil ?_
    go_wp2_with fail
    exact hn (k + 1) (by first | rfl | (push_cast; omega)) (by omega) (by omega) ⟨s, HV5.out.drew, HRUN.out.step HX.out (B.exec_19y HNE.out), HOK.out, HB5.out.drew⟩
  · have q1 : ((s.r an : Int) != (mm : Int)) = true := by simp; omega
    have HNE := Lib.hid hne
    clear hne
    go_wp2_with fail
    refine wp_region_still_lit (by kernel_rfl) (by kernel_rfl) ?_
    repeat still_step
    refine wpStill_nil ?_
    go_wp2_with fail
    exact hn (k + 1 + nn) (by first | rfl | (push_cast; omega)) (by omega) (by omega) ⟨s, HV5.out.drew, HRUN.out.step HX.out (B.exec_19n HNE.out), HOK.out, HB5.out.drew⟩

end Code
end Go.Proofs.YtdpbkchegbkefaaGreatDoor
