/- Package vm: Run's loop, a theorem for each operation (11, 12, 13). -/
/- Package vm: Run's loop, a theorem for each operation (16, 17). -/
import Derived.Test.YtdpbkchegbkefaaGreatDoorVmS
namespace Go.Proofs.YtdpbkchegbkefaaGreatDoor
open Go.RowKit
namespace Code
attribute [local go_sem ↓] Go.wp_at_zero Go.wp_at_succ

set_option maxRecDepth 1000000 in
set_option maxHeartbeats 12800000 in
theorem case11 (Q : Exit → Act → World → Prop) (pa ia : Option Addr) (len cap pn pc im ic b off k n R G : Nat) (pv ov hv : Value) (ps : List B.Ins) (pay inp : List Nat) (s : B.St) (w wr : World) (hp : ProgAt w (some ⟨b, off, none⟩) len ps) (hinp : ListAt w ia im (inp.map u64V)) (hwi : B.Words inp) (hl : len ≤ 16384)
    (hnk : n ≤ k) (hvm : VmAt wr w.heap.size w.heap.size R G pv ov hv s n) (hrun : B.RunTo ps inp (B.start pay im) k s n) (hst : B.StOk pn im s) (hb : Below w.heap.size w wr)
    (hlt : k < len) (an bn nn mm : Nat) (hx : ps[k]? = some ⟨11, an, bn, nn, mm⟩) (hok : B.OpOk 11 an bn nn mm pn im (len - k - 1))
    (c3 c4 c5 c7 c8 c13 c14 c15 c16 c17 c18 c19 c20 c21 c22 c23 c24 c25 c26 c27 c28 c29 c30 c31 c267 u12 u32 u33 u34 u35 u36 u37 u38 u39 u40 u41 u42 u43 u44 u45 u46 u47 u48 u49 u50 u51 u52 u53 u54 u55 u56 u57 u58 u59 u60 u61 u62 u63 u64 u65 u66 u67 u68 u69 u70 u71 u72 u73 u74 u75 u76 u77 u78 u79 u80 u81 u82 u83 u84 u85 u86 u87 u88 u89 u90 u91 u92 u93 u94 u95 u96 u97 u98 u99 u100 u101 u102 u103 u104 u105 u106 u107 u108 u109 u110 u111 u112 u113 u114 u115 u116 u117 u118 u119 u120 u121 u122 u123 u124 u125 u126 u127 u128 u129 u130 u131 u132 u133 u134 u135 u136 u137 u138 u139 u140 u141 u142 u143 u144 u145 u146 u147 u148 u149 u150 u151 u152 u153 u154 u155 u156 u157 u158 u159 u160 u161 u162 u163 u164 u165 u166 u167 u168 u169 u170 u171 u172 u173 u174 u175 u176 u177 u178 u179 u180 u181 u182 u183 u184 u185 u186 u187 u188 u189 u190 u191 u192 u193 u194 u195 u196 u197 u198 u199 u200 u201 u202 u203 u204 u205 u206 u207 u208 u209 u210 u211 u212 u213 u214 u215 u216 u217 u218 u219 u220 u221 u222 u223 u224 u225 u226 u227 u228 u229 u230 u231 u232 u233 u234 u235 u236 u237 u238 u239 u240 u241 u242 u243 u244 u245 u246 u247 u248 u249 u250 u251 u252 u253 u254 u255 u256 u257 u258 u259 u260 u261 u262 u263 u264 u265 u266 : Value)
    (hn : ∀ {i : Int} (k' : Nat) {v12 v32 v33 v34 v35 v36 v37 v38 v39 v40 v41 v42 v43 v44 v45 v46 v47 v48 v49 v50 v51 v52 v53 v54 v55 v56 v57 v58 v59 v60 v61 v62 v63 v64 v65 v66 v67 v68 v69 v70 v71 v72 v73 v74 v75 v76 v77 v78 v79 v80 v81 v82 v83 v84 v85 v86 v87 v88 v89 v90 v91 v92 v93 v94 v95 v96 v97 v98 v99 v100 v101 v102 v103 v104 v105 v106 v107 v108 v109 v110 v111 v112 v113 v114 v115 v116 v117 v118 v119 v120 v121 v122 v123 v124 v125 v126 v127 v128 v129 v130 v131 v132 v133 v134 v135 v136 v137 v138 v139 v140 v141 v142 v143 v144 v145 v146 v147 v148 v149 v150 v151 v152 v153 v154 v155 v156 v157 v158 v159 v160 v161 v162 v163 v164 v165 v166 v167 v168 v169 v170 v171 v172 v173 v174 v175 v176 v177 v178 v179 v180 v181 v182 v183 v184 v185 v186 v187 v188 v189 v190 v191 v192 v193 v194 v195 v196 v197 v198 v199 v200 v201 v202 v203 v204 v205 v206 v207 v208 v209 v210 v211 v212 v213 v214 v215 v216 v217 v218 v219 v220 v221 v222 v223 v224 v225 v226 v227 v228 v229 v230 v231 v232 v233 v234 v235 v236 v237 v238 v239 v240 v241 v242 v243 v244 v245 v246 v247 v248 v249 v250 v251 v252 v253 v254 v255 v256 v257 v258 v259 v260 v261 v262 v263 v264 v265 v266 : Value} {w' : World}, i = k' → k < k' → k' ≤ len → VmRel ps pay inp pn im w R G pv ov hv k' (n + 1) w' → Q .normal ⟨#[.slice (some ⟨b, off, none⟩) len cap, .slice pa pn pc, .slice ia im ic, c3, c4, c5, .pointer (some ⟨w.heap.size, 0, none⟩), c7, c8, .pointer (some ⟨R, 0, none⟩), .pointer (some ⟨G, 0, none⟩), .int .i64 i, v12, c13, c14, c15, c16, c17, c18, c19, c20, c21, c22, c23, c24, c25, c26, c27, c28, c29, c30, c31, v32, v33, v34, v35, v36, v37, v38, v39, v40, v41, v42, v43, v44, v45, v46, v47, v48, v49, v50, v51, v52, v53, v54, v55, v56, v57, v58, v59, v60, v61, v62, v63, v64, v65, v66, v67, v68, v69, v70, v71, v72, v73, v74, v75, v76, v77, v78, v79, v80, v81, v82, v83, v84, v85, v86, v87, v88, v89, v90, v91, v92, v93, v94, v95, v96, v97, v98, v99, v100, v101, v102, v103, v104, v105, v106, v107, v108, v109, v110, v111, v112, v113, v114, v115, v116, v117, v118, v119, v120, v121, v122, v123, v124, v125, v126, v127, v128, v129, v130, v131, v132, v133, v134, v135, v136, v137, v138, v139, v140, v141, v142, v143, v144, v145, v146, v147, v148, v149, v150, v151, v152, v153, v154, v155, v156, v157, v158, v159, v160, v161, v162, v163, v164, v165, v166, v167, v168, v169, v170, v171, v172, v173, v174, v175, v176, v177, v178, v179, v180, v181, v182, v183, v184, v185, v186, v187, v188, v189, v190, v191, v192, v193, v194, v195, v196, v197, v198, v199, v200, v201, v202, v203, v204, v205, v206, v207, v208, v209, v210, v211, v212, v213, v214, v215, v216, v217, v218, v219, v220, v221, v222, v223, v224, v225, v226, v227, v228, v229, v230, v231, v232, v233, v234, v235, v236, v237, v238, v239, v240, v241, v242, v243, v244, v245, v246, v247, v248, v249, v250, v251, v252, v253, v254, v255, v256, v257, v258, v259, v260, v261, v262, v263, v264, v265, v266, c267], []⟩ w'):
    Code.wp Tryz.prog bodyRun Q ⟨#[.slice (some ⟨b, off, none⟩) len cap, .slice pa pn pc, .slice ia im ic, c3, c4, c5, .pointer (some ⟨w.heap.size, 0, none⟩), c7, c8, .pointer (some ⟨R, 0, none⟩), .pointer (some ⟨G, 0, none⟩), .int .i64 (k : Int), u12, c13, c14, c15, c16, c17, c18, c19, c20, c21, c22, c23, c24, c25, c26, c27, c28, c29, c30, c31, u32, u33, u34, u35, u36, u37, u38, u39, u40, u41, u42, u43, u44, u45, u46, u47, u48, u49, u50, u51, u52, u53, u54, u55, u56, u57, u58, u59, u60, u61, u62, u63, u64, u65, u66, u67, u68, u69, u70, u71, u72, u73, u74, u75, u76, u77, u78, u79, u80, u81, u82, u83, u84, u85, u86, u87, u88, u89, u90, u91, u92, u93, u94, u95, u96, u97, u98, u99, u100, u101, u102, u103, u104, u105, u106, u107, u108, u109, u110, u111, u112, u113, u114, u115, u116, u117, u118, u119, u120, u121, u122, u123, u124, u125, u126, u127, u128, u129, u130, u131, u132, u133, u134, u135, u136, u137, u138, u139, u140, u141, u142, u143, u144, u145, u146, u147, u148, u149, u150, u151, u152, u153, u154, u155, u156, u157, u158, u159, u160, u161, u162, u163, u164, u165, u166, u167, u168, u169, u170, u171, u172, u173, u174, u175, u176, u177, u178, u179, u180, u181, u182, u183, u184, u185, u186, u187, u188, u189, u190, u191, u192, u193, u194, u195, u196, u197, u198, u199, u200, u201, u202, u203, u204, u205, u206, u207, u208, u209, u210, u211, u212, u213, u214, u215, u216, u217, u218, u219, u220, u221, u222, u223, u224, u225, u226, u227, u228, u229, u230, u231, u232, u233, u234, u235, u236, u237, u238, u239, u240, u241, u242, u243, u244, u245, u246, u247, u248, u249, u250, u251, u252, u253, u254, u255, u256, u257, u258, u259, u260, u261, u262, u263, u264, u265, u266, c267], []⟩ wr := by
  obtain ⟨b', off', e', hbl, hat⟩ := hp.at_ k _ hx
  simp only [Option.some.injEq, Addr.mk.injEq, and_true] at e'
  obtain ⟨rfl, rfl⟩ := e'
  obtain ⟨h0, h1, h2, h3, h4⟩ := hat.below hb hbl
  simp only at h0 h1 h2 h3 h4
  have HX := Lib.hid hx
  have HV := Lib.hid hvm
  have HRUN := Lib.hid hrun
  have HOK := Lib.hid hst
  have HB := Lib.hid hb
  have HINP := Lib.hid hinp
  have HWI := Lib.hid hwi
  have hGlt : G < wr.heap.size := lt_of_block hvm.ran
  have hsz := hb.size
  have hbG := hvm.bG
  have g5 : wr.cell? ⟨G, 5, none⟩ = some (.int .i64 (n : Int)) := by rw [cell_of_row _ _ _ _ _ _ hvm.ran]; rfl
  have gf5 : wr.frozen? ⟨G, 5, none⟩ = false := frozen_blk hvm.ran
  clear hp hinp hwi hrun hst hx hat hvm hb
  conv => arg 2; whnf
  go_upto_region 12 with fail
  obtain ⟨w5, hw5⟩ : ∃ w5, ((wr.setCell ⟨G, 5, none⟩ (.int .i64 ((n : Int) + 1))).alloc (.cells #[.int .i64 11, .int .i64 (an : Int), .int .i64 (bn : Int), .int .i64 (nn : Int), .int .u64 (mm : Int)] 33)) = w5 := ⟨_, rfl⟩
  rw [hw5]
  have HV5 : Hid (VmAt w5 w.heap.size w.heap.size R G pv ov hv s (n + 1)) := by rw [← hw5]; exact HV.out.tick.alloc _
  have hI5 : InsAt w5 wr.heap.size 0 ⟨11, an, bn, nn, mm⟩ := by rw [← hw5]; exact box_tick ⟨11, an, bn, nn, mm⟩ wr G _
  have HB5 : Hid (Below w.heap.size w w5) := by rw [← hw5]; exact (HB.out.setCell hbG _).alloc (by simp; omega) _
  have hXlt : wr.heap.size < w5.heap.size := World.block_lt_of_cell? w5 _ hI5.c0
  skip
  clear hw5 h0 h1 h2 h3 h4 g5 gf5 HB HV hGlt hsz
  generalize wr.heap.size = X at *
  obtain ⟨d0, d1, d2, d3, d4⟩ := hI5
  simp only [Nat.zero_add] at d0 d1 d2 d3 d4
  obtain ⟨D, hD, hD1, hD2, hG, hbR, hbL⟩ := vm_parts HV5.out
  have HREG : Hid (∀ j, j < 16 → w5.cell? ⟨R, j, none⟩ = some (.int .u64 (s.r j : Int))) := fun j hj => by rw [cell_of_row _ _ _ _ _ _ hD]; exact hD2 j hj
  have ha15 := hok.ha
  have ia0 : (0 : Int) ≤ (an : Int) := by omega
  have ia1 : (an : Int) < 16 := by omega
  have ra := HREG.out an (by omega)
  have fr : w5.frozen? ⟨R, an, none⟩ = false := frozen_blk hD
  have c2 : w5.cell? ⟨G, 2, none⟩ = some pv := by rw [cell_of_row _ _ _ _ _ _ hG]; rfl
  have c3' : w5.cell? ⟨G, 3, none⟩ = some ov := by rw [cell_of_row _ _ _ _ _ _ hG]; rfl
  have c4' : w5.cell? ⟨G, 4, none⟩ = some hv := by rw [cell_of_row _ _ _ _ _ _ hG]; rfl
  have c5' : w5.cell? ⟨G, 5, none⟩ = some (.int .i64 ((n : Int) + 1)) := by rw [cell_of_row _ _ _ _ _ _ hG]; rfl
  skip
  clear hD hD1 hD2 hG
  obtain ⟨n1, n8, hbn⟩ := hok.bytes (by omega)
  have hpy := HV5.out.pay
  rw [HOK.out.payl] at hpy
  obtain ⟨g, c, rfl, hpc, hcm⟩ := own_some hpy (by omega)
  have HOWN : Hid (BytesOf w5 w.heap.size g pn c s.pay) := hpy
  clear hpy
  have ib0 : (0 : Int) ≤ (bn : Int) := by omega
  have ib1 : (bn : Int) ≤ (bn : Int) + (nn : Int) := by omega
  have ib2 : (bn : Int) + (nn : Int) ≤ (c : Int) := by omega
  have ib3 : ¬ (c = bn) := by omega
  have ib4 : IntKind.i64.wrap ((bn : Int) + (nn : Int)) = (bn : Int) + (nn : Int) := IntWalk.i64_in _ (by omega)
  have ib5 : ((bn : Int) + (nn : Int)).toNat = bn + nn := by omega
  go_wp2_with fail
  go_still_tail 17, (by kernel_rfl)
  go_wp2_with fail
  refine (store_any w.heap.size g bn nn _ pn c s.pay false (s.r an) B.all64 _ (bytesOf_drew HOWN.out) HOK.out.pay n8 hbn).mono ?_
  rintro e w6 ⟨rfl, hown6, hg6⟩
  have HO6 := Lib.hid hown6
  have HG6 := Lib.hid hg6
  clear hown6 hg6
  go_wp2_with fail
  exact hn (k + 1) (by first | rfl | (push_cast; omega)) (by omega) (by omega) ⟨{ s with pay := B.patch s.pay bn (B.storeL (s.r an) B.all64 0 ((s.pay.drop bn).take nn)) }, VmAt.lay HV5.out.drew HOK.out.payl.symm HO6.out HG6.out, HRUN.out.step HX.out B.exec_11, HOK.out.patch (B.storeL_bytes _ _ _ _ (B.bytes_take (B.bytes_drop HOK.out.pay bn) nn)) (by rw [B.storeL_length, B.part_len (by rw [HOK.out.payl]; exact hbn)]; exact hbn), HB5.out.drew.grown HG6.out (by have := HB5.out.size; exact this) (fun q hq => by simp at hq; have := own_base HOWN.out; omega)⟩

set_option maxRecDepth 1000000 in
set_option maxHeartbeats 12800000 in
theorem case12 (Q : Exit → Act → World → Prop) (pa ia : Option Addr) (len cap pn pc im ic b off k n R G : Nat) (pv ov hv : Value) (ps : List B.Ins) (pay inp : List Nat) (s : B.St) (w wr : World) (hp : ProgAt w (some ⟨b, off, none⟩) len ps) (hinp : ListAt w ia im (inp.map u64V)) (hwi : B.Words inp) (hl : len ≤ 16384)
    (hnk : n ≤ k) (hvm : VmAt wr w.heap.size w.heap.size R G pv ov hv s n) (hrun : B.RunTo ps inp (B.start pay im) k s n) (hst : B.StOk pn im s) (hb : Below w.heap.size w wr)
    (hlt : k < len) (an bn nn mm : Nat) (hx : ps[k]? = some ⟨12, an, bn, nn, mm⟩) (hok : B.OpOk 12 an bn nn mm pn im (len - k - 1))
    (c3 c4 c5 c7 c8 c13 c14 c15 c16 c17 c18 c19 c20 c21 c22 c23 c24 c25 c26 c27 c28 c29 c30 c31 c267 u12 u32 u33 u34 u35 u36 u37 u38 u39 u40 u41 u42 u43 u44 u45 u46 u47 u48 u49 u50 u51 u52 u53 u54 u55 u56 u57 u58 u59 u60 u61 u62 u63 u64 u65 u66 u67 u68 u69 u70 u71 u72 u73 u74 u75 u76 u77 u78 u79 u80 u81 u82 u83 u84 u85 u86 u87 u88 u89 u90 u91 u92 u93 u94 u95 u96 u97 u98 u99 u100 u101 u102 u103 u104 u105 u106 u107 u108 u109 u110 u111 u112 u113 u114 u115 u116 u117 u118 u119 u120 u121 u122 u123 u124 u125 u126 u127 u128 u129 u130 u131 u132 u133 u134 u135 u136 u137 u138 u139 u140 u141 u142 u143 u144 u145 u146 u147 u148 u149 u150 u151 u152 u153 u154 u155 u156 u157 u158 u159 u160 u161 u162 u163 u164 u165 u166 u167 u168 u169 u170 u171 u172 u173 u174 u175 u176 u177 u178 u179 u180 u181 u182 u183 u184 u185 u186 u187 u188 u189 u190 u191 u192 u193 u194 u195 u196 u197 u198 u199 u200 u201 u202 u203 u204 u205 u206 u207 u208 u209 u210 u211 u212 u213 u214 u215 u216 u217 u218 u219 u220 u221 u222 u223 u224 u225 u226 u227 u228 u229 u230 u231 u232 u233 u234 u235 u236 u237 u238 u239 u240 u241 u242 u243 u244 u245 u246 u247 u248 u249 u250 u251 u252 u253 u254 u255 u256 u257 u258 u259 u260 u261 u262 u263 u264 u265 u266 : Value)
    (hn : ∀ {i : Int} (k' : Nat) {v12 v32 v33 v34 v35 v36 v37 v38 v39 v40 v41 v42 v43 v44 v45 v46 v47 v48 v49 v50 v51 v52 v53 v54 v55 v56 v57 v58 v59 v60 v61 v62 v63 v64 v65 v66 v67 v68 v69 v70 v71 v72 v73 v74 v75 v76 v77 v78 v79 v80 v81 v82 v83 v84 v85 v86 v87 v88 v89 v90 v91 v92 v93 v94 v95 v96 v97 v98 v99 v100 v101 v102 v103 v104 v105 v106 v107 v108 v109 v110 v111 v112 v113 v114 v115 v116 v117 v118 v119 v120 v121 v122 v123 v124 v125 v126 v127 v128 v129 v130 v131 v132 v133 v134 v135 v136 v137 v138 v139 v140 v141 v142 v143 v144 v145 v146 v147 v148 v149 v150 v151 v152 v153 v154 v155 v156 v157 v158 v159 v160 v161 v162 v163 v164 v165 v166 v167 v168 v169 v170 v171 v172 v173 v174 v175 v176 v177 v178 v179 v180 v181 v182 v183 v184 v185 v186 v187 v188 v189 v190 v191 v192 v193 v194 v195 v196 v197 v198 v199 v200 v201 v202 v203 v204 v205 v206 v207 v208 v209 v210 v211 v212 v213 v214 v215 v216 v217 v218 v219 v220 v221 v222 v223 v224 v225 v226 v227 v228 v229 v230 v231 v232 v233 v234 v235 v236 v237 v238 v239 v240 v241 v242 v243 v244 v245 v246 v247 v248 v249 v250 v251 v252 v253 v254 v255 v256 v257 v258 v259 v260 v261 v262 v263 v264 v265 v266 : Value} {w' : World}, i = k' → k < k' → k' ≤ len → VmRel ps pay inp pn im w R G pv ov hv k' (n + 1) w' → Q .normal ⟨#[.slice (some ⟨b, off, none⟩) len cap, .slice pa pn pc, .slice ia im ic, c3, c4, c5, .pointer (some ⟨w.heap.size, 0, none⟩), c7, c8, .pointer (some ⟨R, 0, none⟩), .pointer (some ⟨G, 0, none⟩), .int .i64 i, v12, c13, c14, c15, c16, c17, c18, c19, c20, c21, c22, c23, c24, c25, c26, c27, c28, c29, c30, c31, v32, v33, v34, v35, v36, v37, v38, v39, v40, v41, v42, v43, v44, v45, v46, v47, v48, v49, v50, v51, v52, v53, v54, v55, v56, v57, v58, v59, v60, v61, v62, v63, v64, v65, v66, v67, v68, v69, v70, v71, v72, v73, v74, v75, v76, v77, v78, v79, v80, v81, v82, v83, v84, v85, v86, v87, v88, v89, v90, v91, v92, v93, v94, v95, v96, v97, v98, v99, v100, v101, v102, v103, v104, v105, v106, v107, v108, v109, v110, v111, v112, v113, v114, v115, v116, v117, v118, v119, v120, v121, v122, v123, v124, v125, v126, v127, v128, v129, v130, v131, v132, v133, v134, v135, v136, v137, v138, v139, v140, v141, v142, v143, v144, v145, v146, v147, v148, v149, v150, v151, v152, v153, v154, v155, v156, v157, v158, v159, v160, v161, v162, v163, v164, v165, v166, v167, v168, v169, v170, v171, v172, v173, v174, v175, v176, v177, v178, v179, v180, v181, v182, v183, v184, v185, v186, v187, v188, v189, v190, v191, v192, v193, v194, v195, v196, v197, v198, v199, v200, v201, v202, v203, v204, v205, v206, v207, v208, v209, v210, v211, v212, v213, v214, v215, v216, v217, v218, v219, v220, v221, v222, v223, v224, v225, v226, v227, v228, v229, v230, v231, v232, v233, v234, v235, v236, v237, v238, v239, v240, v241, v242, v243, v244, v245, v246, v247, v248, v249, v250, v251, v252, v253, v254, v255, v256, v257, v258, v259, v260, v261, v262, v263, v264, v265, v266, c267], []⟩ w'):
    Code.wp Tryz.prog bodyRun Q ⟨#[.slice (some ⟨b, off, none⟩) len cap, .slice pa pn pc, .slice ia im ic, c3, c4, c5, .pointer (some ⟨w.heap.size, 0, none⟩), c7, c8, .pointer (some ⟨R, 0, none⟩), .pointer (some ⟨G, 0, none⟩), .int .i64 (k : Int), u12, c13, c14, c15, c16, c17, c18, c19, c20, c21, c22, c23, c24, c25, c26, c27, c28, c29, c30, c31, u32, u33, u34, u35, u36, u37, u38, u39, u40, u41, u42, u43, u44, u45, u46, u47, u48, u49, u50, u51, u52, u53, u54, u55, u56, u57, u58, u59, u60, u61, u62, u63, u64, u65, u66, u67, u68, u69, u70, u71, u72, u73, u74, u75, u76, u77, u78, u79, u80, u81, u82, u83, u84, u85, u86, u87, u88, u89, u90, u91, u92, u93, u94, u95, u96, u97, u98, u99, u100, u101, u102, u103, u104, u105, u106, u107, u108, u109, u110, u111, u112, u113, u114, u115, u116, u117, u118, u119, u120, u121, u122, u123, u124, u125, u126, u127, u128, u129, u130, u131, u132, u133, u134, u135, u136, u137, u138, u139, u140, u141, u142, u143, u144, u145, u146, u147, u148, u149, u150, u151, u152, u153, u154, u155, u156, u157, u158, u159, u160, u161, u162, u163, u164, u165, u166, u167, u168, u169, u170, u171, u172, u173, u174, u175, u176, u177, u178, u179, u180, u181, u182, u183, u184, u185, u186, u187, u188, u189, u190, u191, u192, u193, u194, u195, u196, u197, u198, u199, u200, u201, u202, u203, u204, u205, u206, u207, u208, u209, u210, u211, u212, u213, u214, u215, u216, u217, u218, u219, u220, u221, u222, u223, u224, u225, u226, u227, u228, u229, u230, u231, u232, u233, u234, u235, u236, u237, u238, u239, u240, u241, u242, u243, u244, u245, u246, u247, u248, u249, u250, u251, u252, u253, u254, u255, u256, u257, u258, u259, u260, u261, u262, u263, u264, u265, u266, c267], []⟩ wr := by
  obtain ⟨b', off', e', hbl, hat⟩ := hp.at_ k _ hx
  simp only [Option.some.injEq, Addr.mk.injEq, and_true] at e'
  obtain ⟨rfl, rfl⟩ := e'
  obtain ⟨h0, h1, h2, h3, h4⟩ := hat.below hb hbl
  simp only at h0 h1 h2 h3 h4
  have HX := Lib.hid hx
  have HV := Lib.hid hvm
  have HRUN := Lib.hid hrun
  have HOK := Lib.hid hst
  have HB := Lib.hid hb
  have HINP := Lib.hid hinp
  have HWI := Lib.hid hwi
  have hGlt : G < wr.heap.size := lt_of_block hvm.ran
  have hsz := hb.size
  have hbG := hvm.bG
  have g5 : wr.cell? ⟨G, 5, none⟩ = some (.int .i64 (n : Int)) := by rw [cell_of_row _ _ _ _ _ _ hvm.ran]; rfl
  have gf5 : wr.frozen? ⟨G, 5, none⟩ = false := frozen_blk hvm.ran
  clear hp hinp hwi hrun hst hx hat hvm hb
  conv => arg 2; whnf
  go_upto_region 12 with fail
  obtain ⟨w5, hw5⟩ : ∃ w5, ((wr.setCell ⟨G, 5, none⟩ (.int .i64 ((n : Int) + 1))).alloc (.cells #[.int .i64 12, .int .i64 (an : Int), .int .i64 (bn : Int), .int .i64 (nn : Int), .int .u64 (mm : Int)] 33)) = w5 := ⟨_, rfl⟩
  rw [hw5]
  have HV5 : Hid (VmAt w5 w.heap.size w.heap.size R G pv ov hv s (n + 1)) := by rw [← hw5]; exact HV.out.tick.alloc _
  have hI5 : InsAt w5 wr.heap.size 0 ⟨12, an, bn, nn, mm⟩ := by rw [← hw5]; exact box_tick ⟨12, an, bn, nn, mm⟩ wr G _
  have HB5 : Hid (Below w.heap.size w w5) := by rw [← hw5]; exact (HB.out.setCell hbG _).alloc (by simp; omega) _
  have hXlt : wr.heap.size < w5.heap.size := World.block_lt_of_cell? w5 _ hI5.c0
  skip
  clear hw5 h0 h1 h2 h3 h4 g5 gf5 HB HV hGlt hsz
  generalize wr.heap.size = X at *
  obtain ⟨d0, d1, d2, d3, d4⟩ := hI5
  simp only [Nat.zero_add] at d0 d1 d2 d3 d4
  obtain ⟨D, hD, hD1, hD2, hG, hbR, hbL⟩ := vm_parts HV5.out
  have HREG : Hid (∀ j, j < 16 → w5.cell? ⟨R, j, none⟩ = some (.int .u64 (s.r j : Int))) := fun j hj => by rw [cell_of_row _ _ _ _ _ _ hD]; exact hD2 j hj
  have ha15 := hok.ha
  have ia0 : (0 : Int) ≤ (an : Int) := by omega
  have ia1 : (an : Int) < 16 := by omega
  have ra := HREG.out an (by omega)
  have fr : w5.frozen? ⟨R, an, none⟩ = false := frozen_blk hD
  have c2 : w5.cell? ⟨G, 2, none⟩ = some pv := by rw [cell_of_row _ _ _ _ _ _ hG]; rfl
  have c3' : w5.cell? ⟨G, 3, none⟩ = some ov := by rw [cell_of_row _ _ _ _ _ _ hG]; rfl
  have c4' : w5.cell? ⟨G, 4, none⟩ = some hv := by rw [cell_of_row _ _ _ _ _ _ hG]; rfl
  have c5' : w5.cell? ⟨G, 5, none⟩ = some (.int .i64 ((n : Int) + 1)) := by rw [cell_of_row _ _ _ _ _ _ hG]; rfl
  skip
  clear hD hD1 hD2 hG
  obtain ⟨n1, n8, hbn⟩ := hok.bytes (by omega)
  have hpy := HV5.out.pay
  rw [HOK.out.payl] at hpy
  obtain ⟨g, c, rfl, hpc, hcm⟩ := own_some hpy (by omega)
  have HOWN : Hid (BytesOf w5 w.heap.size g pn c s.pay) := hpy
  clear hpy
  have ib0 : (0 : Int) ≤ (bn : Int) := by omega
  have ib1 : (bn : Int) ≤ (bn : Int) + (nn : Int) := by omega
  have ib2 : (bn : Int) + (nn : Int) ≤ (c : Int) := by omega
  have ib3 : ¬ (c = bn) := by omega
  have ib4 : IntKind.i64.wrap ((bn : Int) + (nn : Int)) = (bn : Int) + (nn : Int) := IntWalk.i64_in _ (by omega)
  have ib5 : ((bn : Int) + (nn : Int)).toNat = bn + nn := by omega
  go_wp2_with fail
  go_still_tail 17, (by kernel_rfl)
  go_wp2_with fail
  refine (store_any w.heap.size g bn nn _ pn c s.pay true (s.r an) B.all64 _ (bytesOf_drew HOWN.out) HOK.out.pay n8 hbn).mono ?_
  rintro e w6 ⟨rfl, hown6, hg6⟩
  have HO6 := Lib.hid hown6
  have HG6 := Lib.hid hg6
  clear hown6 hg6
  go_wp2_with fail
  exact hn (k + 1) (by first | rfl | (push_cast; omega)) (by omega) (by omega) ⟨{ s with pay := B.patch s.pay bn (B.storeB (s.r an) B.all64 ((s.pay.drop bn).take nn)) }, VmAt.lay HV5.out.drew HOK.out.payl.symm HO6.out HG6.out, HRUN.out.step HX.out B.exec_12, HOK.out.patch (B.storeB_bytes _ _ _ (B.bytes_take (B.bytes_drop HOK.out.pay bn) nn)) (by rw [B.storeB_length, B.part_len (by rw [HOK.out.payl]; exact hbn)]; exact hbn), HB5.out.drew.grown HG6.out (by have := HB5.out.size; exact this) (fun q hq => by simp at hq; have := own_base HOWN.out; omega)⟩

set_option maxRecDepth 1000000 in
set_option maxHeartbeats 12800000 in
theorem case13 (Q : Exit → Act → World → Prop) (pa ia : Option Addr) (len cap pn pc im ic b off k n R G : Nat) (pv ov hv : Value) (ps : List B.Ins) (pay inp : List Nat) (s : B.St) (w wr : World) (hp : ProgAt w (some ⟨b, off, none⟩) len ps) (hinp : ListAt w ia im (inp.map u64V)) (hwi : B.Words inp) (hl : len ≤ 16384)
    (hnk : n ≤ k) (hvm : VmAt wr w.heap.size w.heap.size R G pv ov hv s n) (hrun : B.RunTo ps inp (B.start pay im) k s n) (hst : B.StOk pn im s) (hb : Below w.heap.size w wr)
    (hlt : k < len) (an bn nn mm : Nat) (hx : ps[k]? = some ⟨13, an, bn, nn, mm⟩) (hok : B.OpOk 13 an bn nn mm pn im (len - k - 1))
    (c3 c4 c5 c7 c8 c13 c14 c15 c16 c17 c18 c19 c20 c21 c22 c23 c24 c25 c26 c27 c28 c29 c30 c31 c267 u12 u32 u33 u34 u35 u36 u37 u38 u39 u40 u41 u42 u43 u44 u45 u46 u47 u48 u49 u50 u51 u52 u53 u54 u55 u56 u57 u58 u59 u60 u61 u62 u63 u64 u65 u66 u67 u68 u69 u70 u71 u72 u73 u74 u75 u76 u77 u78 u79 u80 u81 u82 u83 u84 u85 u86 u87 u88 u89 u90 u91 u92 u93 u94 u95 u96 u97 u98 u99 u100 u101 u102 u103 u104 u105 u106 u107 u108 u109 u110 u111 u112 u113 u114 u115 u116 u117 u118 u119 u120 u121 u122 u123 u124 u125 u126 u127 u128 u129 u130 u131 u132 u133 u134 u135 u136 u137 u138 u139 u140 u141 u142 u143 u144 u145 u146 u147 u148 u149 u150 u151 u152 u153 u154 u155 u156 u157 u158 u159 u160 u161 u162 u163 u164 u165 u166 u167 u168 u169 u170 u171 u172 u173 u174 u175 u176 u177 u178 u179 u180 u181 u182 u183 u184 u185 u186 u187 u188 u189 u190 u191 u192 u193 u194 u195 u196 u197 u198 u199 u200 u201 u202 u203 u204 u205 u206 u207 u208 u209 u210 u211 u212 u213 u214 u215 u216 u217 u218 u219 u220 u221 u222 u223 u224 u225 u226 u227 u228 u229 u230 u231 u232 u233 u234 u235 u236 u237 u238 u239 u240 u241 u242 u243 u244 u245 u246 u247 u248 u249 u250 u251 u252 u253 u254 u255 u256 u257 u258 u259 u260 u261 u262 u263 u264 u265 u266 : Value)
    (hn : ∀ {i : Int} (k' : Nat) {v12 v32 v33 v34 v35 v36 v37 v38 v39 v40 v41 v42 v43 v44 v45 v46 v47 v48 v49 v50 v51 v52 v53 v54 v55 v56 v57 v58 v59 v60 v61 v62 v63 v64 v65 v66 v67 v68 v69 v70 v71 v72 v73 v74 v75 v76 v77 v78 v79 v80 v81 v82 v83 v84 v85 v86 v87 v88 v89 v90 v91 v92 v93 v94 v95 v96 v97 v98 v99 v100 v101 v102 v103 v104 v105 v106 v107 v108 v109 v110 v111 v112 v113 v114 v115 v116 v117 v118 v119 v120 v121 v122 v123 v124 v125 v126 v127 v128 v129 v130 v131 v132 v133 v134 v135 v136 v137 v138 v139 v140 v141 v142 v143 v144 v145 v146 v147 v148 v149 v150 v151 v152 v153 v154 v155 v156 v157 v158 v159 v160 v161 v162 v163 v164 v165 v166 v167 v168 v169 v170 v171 v172 v173 v174 v175 v176 v177 v178 v179 v180 v181 v182 v183 v184 v185 v186 v187 v188 v189 v190 v191 v192 v193 v194 v195 v196 v197 v198 v199 v200 v201 v202 v203 v204 v205 v206 v207 v208 v209 v210 v211 v212 v213 v214 v215 v216 v217 v218 v219 v220 v221 v222 v223 v224 v225 v226 v227 v228 v229 v230 v231 v232 v233 v234 v235 v236 v237 v238 v239 v240 v241 v242 v243 v244 v245 v246 v247 v248 v249 v250 v251 v252 v253 v254 v255 v256 v257 v258 v259 v260 v261 v262 v263 v264 v265 v266 : Value} {w' : World}, i = k' → k < k' → k' ≤ len → VmRel ps pay inp pn im w R G pv ov hv k' (n + 1) w' → Q .normal ⟨#[.slice (some ⟨b, off, none⟩) len cap, .slice pa pn pc, .slice ia im ic, c3, c4, c5, .pointer (some ⟨w.heap.size, 0, none⟩), c7, c8, .pointer (some ⟨R, 0, none⟩), .pointer (some ⟨G, 0, none⟩), .int .i64 i, v12, c13, c14, c15, c16, c17, c18, c19, c20, c21, c22, c23, c24, c25, c26, c27, c28, c29, c30, c31, v32, v33, v34, v35, v36, v37, v38, v39, v40, v41, v42, v43, v44, v45, v46, v47, v48, v49, v50, v51, v52, v53, v54, v55, v56, v57, v58, v59, v60, v61, v62, v63, v64, v65, v66, v67, v68, v69, v70, v71, v72, v73, v74, v75, v76, v77, v78, v79, v80, v81, v82, v83, v84, v85, v86, v87, v88, v89, v90, v91, v92, v93, v94, v95, v96, v97, v98, v99, v100, v101, v102, v103, v104, v105, v106, v107, v108, v109, v110, v111, v112, v113, v114, v115, v116, v117, v118, v119, v120, v121, v122, v123, v124, v125, v126, v127, v128, v129, v130, v131, v132, v133, v134, v135, v136, v137, v138, v139, v140, v141, v142, v143, v144, v145, v146, v147, v148, v149, v150, v151, v152, v153, v154, v155, v156, v157, v158, v159, v160, v161, v162, v163, v164, v165, v166, v167, v168, v169, v170, v171, v172, v173, v174, v175, v176, v177, v178, v179, v180, v181, v182, v183, v184, v185, v186, v187, v188, v189, v190, v191, v192, v193, v194, v195, v196, v197, v198, v199, v200, v201, v202, v203, v204, v205, v206, v207, v208, v209, v210, v211, v212, v213, v214, v215, v216, v217, v218, v219, v220, v221, v222, v223, v224, v225, v226, v227, v228, v229, v230, v231, v232, v233, v234, v235, v236, v237, v238, v239, v240, v241, v242, v243, v244, v245, v246, v247, v248, v249, v250, v251, v252, v253, v254, v255, v256, v257, v258, v259, v260, v261, v262, v263, v264, v265, v266, c267], []⟩ w'):
    Code.wp Tryz.prog bodyRun Q ⟨#[.slice (some ⟨b, off, none⟩) len cap, .slice pa pn pc, .slice ia im ic, c3, c4, c5, .pointer (some ⟨w.heap.size, 0, none⟩), c7, c8, .pointer (some ⟨R, 0, none⟩), .pointer (some ⟨G, 0, none⟩), .int .i64 (k : Int), u12, c13, c14, c15, c16, c17, c18, c19, c20, c21, c22, c23, c24, c25, c26, c27, c28, c29, c30, c31, u32, u33, u34, u35, u36, u37, u38, u39, u40, u41, u42, u43, u44, u45, u46, u47, u48, u49, u50, u51, u52, u53, u54, u55, u56, u57, u58, u59, u60, u61, u62, u63, u64, u65, u66, u67, u68, u69, u70, u71, u72, u73, u74, u75, u76, u77, u78, u79, u80, u81, u82, u83, u84, u85, u86, u87, u88, u89, u90, u91, u92, u93, u94, u95, u96, u97, u98, u99, u100, u101, u102, u103, u104, u105, u106, u107, u108, u109, u110, u111, u112, u113, u114, u115, u116, u117, u118, u119, u120, u121, u122, u123, u124, u125, u126, u127, u128, u129, u130, u131, u132, u133, u134, u135, u136, u137, u138, u139, u140, u141, u142, u143, u144, u145, u146, u147, u148, u149, u150, u151, u152, u153, u154, u155, u156, u157, u158, u159, u160, u161, u162, u163, u164, u165, u166, u167, u168, u169, u170, u171, u172, u173, u174, u175, u176, u177, u178, u179, u180, u181, u182, u183, u184, u185, u186, u187, u188, u189, u190, u191, u192, u193, u194, u195, u196, u197, u198, u199, u200, u201, u202, u203, u204, u205, u206, u207, u208, u209, u210, u211, u212, u213, u214, u215, u216, u217, u218, u219, u220, u221, u222, u223, u224, u225, u226, u227, u228, u229, u230, u231, u232, u233, u234, u235, u236, u237, u238, u239, u240, u241, u242, u243, u244, u245, u246, u247, u248, u249, u250, u251, u252, u253, u254, u255, u256, u257, u258, u259, u260, u261, u262, u263, u264, u265, u266, c267], []⟩ wr := by
  obtain ⟨b', off', e', hbl, hat⟩ := hp.at_ k _ hx
  simp only [Option.some.injEq, Addr.mk.injEq, and_true] at e'
  obtain ⟨rfl, rfl⟩ := e'
  obtain ⟨h0, h1, h2, h3, h4⟩ := hat.below hb hbl
  simp only at h0 h1 h2 h3 h4
  have HX := Lib.hid hx
  have HV := Lib.hid hvm
  have HRUN := Lib.hid hrun
  have HOK := Lib.hid hst
  have HB := Lib.hid hb
  have HINP := Lib.hid hinp
  have HWI := Lib.hid hwi
  have hGlt : G < wr.heap.size := lt_of_block hvm.ran
  have hsz := hb.size
  have hbG := hvm.bG
  have g5 : wr.cell? ⟨G, 5, none⟩ = some (.int .i64 (n : Int)) := by rw [cell_of_row _ _ _ _ _ _ hvm.ran]; rfl
  have gf5 : wr.frozen? ⟨G, 5, none⟩ = false := frozen_blk hvm.ran
  clear hp hinp hwi hrun hst hx hat hvm hb
  conv => arg 2; whnf
  go_upto_region 12 with fail
  obtain ⟨w5, hw5⟩ : ∃ w5, ((wr.setCell ⟨G, 5, none⟩ (.int .i64 ((n : Int) + 1))).alloc (.cells #[.int .i64 13, .int .i64 (an : Int), .int .i64 (bn : Int), .int .i64 (nn : Int), .int .u64 (mm : Int)] 33)) = w5 := ⟨_, rfl⟩
  rw [hw5]
  have HV5 : Hid (VmAt w5 w.heap.size w.heap.size R G pv ov hv s (n + 1)) := by rw [← hw5]; exact HV.out.tick.alloc _
  have hI5 : InsAt w5 wr.heap.size 0 ⟨13, an, bn, nn, mm⟩ := by rw [← hw5]; exact box_tick ⟨13, an, bn, nn, mm⟩ wr G _
  have HB5 : Hid (Below w.heap.size w w5) := by rw [← hw5]; exact (HB.out.setCell hbG _).alloc (by simp; omega) _
  have hXlt : wr.heap.size < w5.heap.size := World.block_lt_of_cell? w5 _ hI5.c0
  skip
  clear hw5 h0 h1 h2 h3 h4 g5 gf5 HB HV hGlt hsz
  generalize wr.heap.size = X at *
  obtain ⟨d0, d1, d2, d3, d4⟩ := hI5
  simp only [Nat.zero_add] at d0 d1 d2 d3 d4
  obtain ⟨D, hD, hD1, hD2, hG, hbR, hbL⟩ := vm_parts HV5.out
  have HREG : Hid (∀ j, j < 16 → w5.cell? ⟨R, j, none⟩ = some (.int .u64 (s.r j : Int))) := fun j hj => by rw [cell_of_row _ _ _ _ _ _ hD]; exact hD2 j hj
  have ha15 := hok.ha
  have ia0 : (0 : Int) ≤ (an : Int) := by omega
  have ia1 : (an : Int) < 16 := by omega
  have ra := HREG.out an (by omega)
  have fr : w5.frozen? ⟨R, an, none⟩ = false := frozen_blk hD
  have c2 : w5.cell? ⟨G, 2, none⟩ = some pv := by rw [cell_of_row _ _ _ _ _ _ hG]; rfl
  have c3' : w5.cell? ⟨G, 3, none⟩ = some ov := by rw [cell_of_row _ _ _ _ _ _ hG]; rfl
  have c4' : w5.cell? ⟨G, 4, none⟩ = some hv := by rw [cell_of_row _ _ _ _ _ _ hG]; rfl
  have c5' : w5.cell? ⟨G, 5, none⟩ = some (.int .i64 ((n : Int) + 1)) := by rw [cell_of_row _ _ _ _ _ _ hG]; rfl
  skip
  clear hD hD1 hD2 hG
  obtain ⟨n1, n8, hbn⟩ := hok.bytes (by omega)
  have hpy := HV5.out.pay
  rw [HOK.out.payl] at hpy
  obtain ⟨g, c, rfl, hpc, hcm⟩ := own_some hpy (by omega)
  have HOWN : Hid (BytesOf w5 w.heap.size g pn c s.pay) := hpy
  clear hpy
  have ib0 : (0 : Int) ≤ (bn : Int) := by omega
  have ib1 : (bn : Int) ≤ (bn : Int) + (nn : Int) := by omega
  have ib2 : (bn : Int) + (nn : Int) ≤ (c : Int) := by omega
  have ib3 : ¬ (c = bn) := by omega
  have ib4 : IntKind.i64.wrap ((bn : Int) + (nn : Int)) = (bn : Int) + (nn : Int) := IntWalk.i64_in _ (by omega)
  have ib5 : ((bn : Int) + (nn : Int)).toNat = bn + nn := by omega
  go_wp2_with fail
  go_still_tail 16, (by kernel_rfl)
  go_wp2_with fail
  refine (store_any w.heap.size g bn nn _ pn c s.pay false (s.r an) mm _ (bytesOf_drew HOWN.out) HOK.out.pay n8 hbn).mono ?_
  rintro e w6 ⟨rfl, hown6, hg6⟩
  have HO6 := Lib.hid hown6
  have HG6 := Lib.hid hg6
  clear hown6 hg6
  go_wp2_with fail
  exact hn (k + 1) (by first | rfl | (push_cast; omega)) (by omega) (by omega) ⟨{ s with pay := B.patch s.pay bn (B.storeL (s.r an) mm 0 ((s.pay.drop bn).take nn)) }, VmAt.lay HV5.out.drew HOK.out.payl.symm HO6.out HG6.out, HRUN.out.step HX.out B.exec_13, HOK.out.patch (B.storeL_bytes _ _ _ _ (B.bytes_take (B.bytes_drop HOK.out.pay bn) nn)) (by rw [B.storeL_length, B.part_len (by rw [HOK.out.payl]; exact hbn)]; exact hbn), HB5.out.drew.grown HG6.out (by have := HB5.out.size; exact this) (fun q hq => by simp at hq; have := own_base HOWN.out; omega)⟩

end Code
end Go.Proofs.YtdpbkchegbkefaaGreatDoor

namespace Go.Proofs.YtdpbkchegbkefaaGreatDoor
open Go.RowKit
namespace Code
attribute [local go_sem ↓] Go.wp_at_zero Go.wp_at_succ

set_option maxRecDepth 1000000 in
set_option maxHeartbeats 12800000 in
theorem case16 (Q : Exit → Act → World → Prop) (pa ia : Option Addr) (len cap pn pc im ic b off k n R G : Nat) (pv ov hv : Value) (ps : List B.Ins) (pay inp : List Nat) (s : B.St) (w wr : World) (hp : ProgAt w (some ⟨b, off, none⟩) len ps) (hinp : ListAt w ia im (inp.map u64V)) (hwi : B.Words inp) (hl : len ≤ 16384)
    (hnk : n ≤ k) (hvm : VmAt wr w.heap.size w.heap.size R G pv ov hv s n) (hrun : B.RunTo ps inp (B.start pay im) k s n) (hst : B.StOk pn im s) (hb : Below w.heap.size w wr)
    (hlt : k < len) (an bn nn mm : Nat) (hx : ps[k]? = some ⟨16, an, bn, nn, mm⟩) (hok : B.OpOk 16 an bn nn mm pn im (len - k - 1))
    (c3 c4 c5 c7 c8 c13 c14 c15 c16 c17 c18 c19 c20 c21 c22 c23 c24 c25 c26 c27 c28 c29 c30 c31 c267 u12 u32 u33 u34 u35 u36 u37 u38 u39 u40 u41 u42 u43 u44 u45 u46 u47 u48 u49 u50 u51 u52 u53 u54 u55 u56 u57 u58 u59 u60 u61 u62 u63 u64 u65 u66 u67 u68 u69 u70 u71 u72 u73 u74 u75 u76 u77 u78 u79 u80 u81 u82 u83 u84 u85 u86 u87 u88 u89 u90 u91 u92 u93 u94 u95 u96 u97 u98 u99 u100 u101 u102 u103 u104 u105 u106 u107 u108 u109 u110 u111 u112 u113 u114 u115 u116 u117 u118 u119 u120 u121 u122 u123 u124 u125 u126 u127 u128 u129 u130 u131 u132 u133 u134 u135 u136 u137 u138 u139 u140 u141 u142 u143 u144 u145 u146 u147 u148 u149 u150 u151 u152 u153 u154 u155 u156 u157 u158 u159 u160 u161 u162 u163 u164 u165 u166 u167 u168 u169 u170 u171 u172 u173 u174 u175 u176 u177 u178 u179 u180 u181 u182 u183 u184 u185 u186 u187 u188 u189 u190 u191 u192 u193 u194 u195 u196 u197 u198 u199 u200 u201 u202 u203 u204 u205 u206 u207 u208 u209 u210 u211 u212 u213 u214 u215 u216 u217 u218 u219 u220 u221 u222 u223 u224 u225 u226 u227 u228 u229 u230 u231 u232 u233 u234 u235 u236 u237 u238 u239 u240 u241 u242 u243 u244 u245 u246 u247 u248 u249 u250 u251 u252 u253 u254 u255 u256 u257 u258 u259 u260 u261 u262 u263 u264 u265 u266 : Value)
    (hpan : ∀ c (a : Act) d v w, Q (.panic c) (a.put (some d) v) w → Q (.panic c) a w)
    (hn : ∀ {i : Int} (k' : Nat) {v12 v32 v33 v34 v35 v36 v37 v38 v39 v40 v41 v42 v43 v44 v45 v46 v47 v48 v49 v50 v51 v52 v53 v54 v55 v56 v57 v58 v59 v60 v61 v62 v63 v64 v65 v66 v67 v68 v69 v70 v71 v72 v73 v74 v75 v76 v77 v78 v79 v80 v81 v82 v83 v84 v85 v86 v87 v88 v89 v90 v91 v92 v93 v94 v95 v96 v97 v98 v99 v100 v101 v102 v103 v104 v105 v106 v107 v108 v109 v110 v111 v112 v113 v114 v115 v116 v117 v118 v119 v120 v121 v122 v123 v124 v125 v126 v127 v128 v129 v130 v131 v132 v133 v134 v135 v136 v137 v138 v139 v140 v141 v142 v143 v144 v145 v146 v147 v148 v149 v150 v151 v152 v153 v154 v155 v156 v157 v158 v159 v160 v161 v162 v163 v164 v165 v166 v167 v168 v169 v170 v171 v172 v173 v174 v175 v176 v177 v178 v179 v180 v181 v182 v183 v184 v185 v186 v187 v188 v189 v190 v191 v192 v193 v194 v195 v196 v197 v198 v199 v200 v201 v202 v203 v204 v205 v206 v207 v208 v209 v210 v211 v212 v213 v214 v215 v216 v217 v218 v219 v220 v221 v222 v223 v224 v225 v226 v227 v228 v229 v230 v231 v232 v233 v234 v235 v236 v237 v238 v239 v240 v241 v242 v243 v244 v245 v246 v247 v248 v249 v250 v251 v252 v253 v254 v255 v256 v257 v258 v259 v260 v261 v262 v263 v264 v265 v266 : Value} {w' : World}, i = k' → k < k' → k' ≤ len → VmRel ps pay inp pn im w R G pv ov hv k' (n + 1) w' → Q .normal ⟨#[.slice (some ⟨b, off, none⟩) len cap, .slice pa pn pc, .slice ia im ic, c3, c4, c5, .pointer (some ⟨w.heap.size, 0, none⟩), c7, c8, .pointer (some ⟨R, 0, none⟩), .pointer (some ⟨G, 0, none⟩), .int .i64 i, v12, c13, c14, c15, c16, c17, c18, c19, c20, c21, c22, c23, c24, c25, c26, c27, c28, c29, c30, c31, v32, v33, v34, v35, v36, v37, v38, v39, v40, v41, v42, v43, v44, v45, v46, v47, v48, v49, v50, v51, v52, v53, v54, v55, v56, v57, v58, v59, v60, v61, v62, v63, v64, v65, v66, v67, v68, v69, v70, v71, v72, v73, v74, v75, v76, v77, v78, v79, v80, v81, v82, v83, v84, v85, v86, v87, v88, v89, v90, v91, v92, v93, v94, v95, v96, v97, v98, v99, v100, v101, v102, v103, v104, v105, v106, v107, v108, v109, v110, v111, v112, v113, v114, v115, v116, v117, v118, v119, v120, v121, v122, v123, v124, v125, v126, v127, v128, v129, v130, v131, v132, v133, v134, v135, v136, v137, v138, v139, v140, v141, v142, v143, v144, v145, v146, v147, v148, v149, v150, v151, v152, v153, v154, v155, v156, v157, v158, v159, v160, v161, v162, v163, v164, v165, v166, v167, v168, v169, v170, v171, v172, v173, v174, v175, v176, v177, v178, v179, v180, v181, v182, v183, v184, v185, v186, v187, v188, v189, v190, v191, v192, v193, v194, v195, v196, v197, v198, v199, v200, v201, v202, v203, v204, v205, v206, v207, v208, v209, v210, v211, v212, v213, v214, v215, v216, v217, v218, v219, v220, v221, v222, v223, v224, v225, v226, v227, v228, v229, v230, v231, v232, v233, v234, v235, v236, v237, v238, v239, v240, v241, v242, v243, v244, v245, v246, v247, v248, v249, v250, v251, v252, v253, v254, v255, v256, v257, v258, v259, v260, v261, v262, v263, v264, v265, v266, c267], []⟩ w'):
    Code.wp Tryz.prog bodyRun Q ⟨#[.slice (some ⟨b, off, none⟩) len cap, .slice pa pn pc, .slice ia im ic, c3, c4, c5, .pointer (some ⟨w.heap.size, 0, none⟩), c7, c8, .pointer (some ⟨R, 0, none⟩), .pointer (some ⟨G, 0, none⟩), .int .i64 (k : Int), u12, c13, c14, c15, c16, c17, c18, c19, c20, c21, c22, c23, c24, c25, c26, c27, c28, c29, c30, c31, u32, u33, u34, u35, u36, u37, u38, u39, u40, u41, u42, u43, u44, u45, u46, u47, u48, u49, u50, u51, u52, u53, u54, u55, u56, u57, u58, u59, u60, u61, u62, u63, u64, u65, u66, u67, u68, u69, u70, u71, u72, u73, u74, u75, u76, u77, u78, u79, u80, u81, u82, u83, u84, u85, u86, u87, u88, u89, u90, u91, u92, u93, u94, u95, u96, u97, u98, u99, u100, u101, u102, u103, u104, u105, u106, u107, u108, u109, u110, u111, u112, u113, u114, u115, u116, u117, u118, u119, u120, u121, u122, u123, u124, u125, u126, u127, u128, u129, u130, u131, u132, u133, u134, u135, u136, u137, u138, u139, u140, u141, u142, u143, u144, u145, u146, u147, u148, u149, u150, u151, u152, u153, u154, u155, u156, u157, u158, u159, u160, u161, u162, u163, u164, u165, u166, u167, u168, u169, u170, u171, u172, u173, u174, u175, u176, u177, u178, u179, u180, u181, u182, u183, u184, u185, u186, u187, u188, u189, u190, u191, u192, u193, u194, u195, u196, u197, u198, u199, u200, u201, u202, u203, u204, u205, u206, u207, u208, u209, u210, u211, u212, u213, u214, u215, u216, u217, u218, u219, u220, u221, u222, u223, u224, u225, u226, u227, u228, u229, u230, u231, u232, u233, u234, u235, u236, u237, u238, u239, u240, u241, u242, u243, u244, u245, u246, u247, u248, u249, u250, u251, u252, u253, u254, u255, u256, u257, u258, u259, u260, u261, u262, u263, u264, u265, u266, c267], []⟩ wr := by
  obtain ⟨b', off', e', hbl, hat⟩ := hp.at_ k _ hx
  simp only [Option.some.injEq, Addr.mk.injEq, and_true] at e'
  obtain ⟨rfl, rfl⟩ := e'
  obtain ⟨h0, h1, h2, h3, h4⟩ := hat.below hb hbl
  simp only at h0 h1 h2 h3 h4
  have HX := Lib.hid hx
  have HV := Lib.hid hvm
  have HRUN := Lib.hid hrun
  have HOK := Lib.hid hst
  have HB := Lib.hid hb
  have HINP := Lib.hid hinp
  have HWI := Lib.hid hwi
  have hGlt : G < wr.heap.size := lt_of_block hvm.ran
  have hsz := hb.size
  have hbG := hvm.bG
  have g5 : wr.cell? ⟨G, 5, none⟩ = some (.int .i64 (n : Int)) := by rw [cell_of_row _ _ _ _ _ _ hvm.ran]; rfl
  have gf5 : wr.frozen? ⟨G, 5, none⟩ = false := frozen_blk hvm.ran
  clear hp hinp hwi hrun hst hx hat hvm hb
  conv => arg 2; whnf
  go_upto_region 12 with fail
  obtain ⟨w5, hw5⟩ : ∃ w5, ((wr.setCell ⟨G, 5, none⟩ (.int .i64 ((n : Int) + 1))).alloc (.cells #[.int .i64 16, .int .i64 (an : Int), .int .i64 (bn : Int), .int .i64 (nn : Int), .int .u64 (mm : Int)] 33)) = w5 := ⟨_, rfl⟩
  rw [hw5]
  have HV5 : Hid (VmAt w5 w.heap.size w.heap.size R G pv ov hv s (n + 1)) := by rw [← hw5]; exact HV.out.tick.alloc _
  have hI5 : InsAt w5 wr.heap.size 0 ⟨16, an, bn, nn, mm⟩ := by rw [← hw5]; exact box_tick ⟨16, an, bn, nn, mm⟩ wr G _
  have HB5 : Hid (Below w.heap.size w w5) := by rw [← hw5]; exact (HB.out.setCell hbG _).alloc (by simp; omega) _
  have hXlt : wr.heap.size < w5.heap.size := World.block_lt_of_cell? w5 _ hI5.c0
  have HXO : Hid (∀ k, ov.ownBlock = some k → k < wr.heap.size) := fun k hk => (HV.out.out.lt k hk).2; have HXH : Hid (∀ k, hv.ownBlock = some k → k < wr.heap.size) := fun k hk => (HV.out.has.lt k hk).2
  clear hw5 h0 h1 h2 h3 h4 g5 gf5 HB HV hGlt hsz
  generalize wr.heap.size = X at *
  obtain ⟨d0, d1, d2, d3, d4⟩ := hI5
  simp only [Nat.zero_add] at d0 d1 d2 d3 d4
  obtain ⟨D, hD, hD1, hD2, hG, hbR, hbL⟩ := vm_parts HV5.out
  have HREG : Hid (∀ j, j < 16 → w5.cell? ⟨R, j, none⟩ = some (.int .u64 (s.r j : Int))) := fun j hj => by rw [cell_of_row _ _ _ _ _ _ hD]; exact hD2 j hj
  have ha15 := hok.ha
  have ia0 : (0 : Int) ≤ (an : Int) := by omega
  have ia1 : (an : Int) < 16 := by omega
  have ra := HREG.out an (by omega)
  have fr : w5.frozen? ⟨R, an, none⟩ = false := frozen_blk hD
  have c2 : w5.cell? ⟨G, 2, none⟩ = some pv := by rw [cell_of_row _ _ _ _ _ _ hG]; rfl
  have c3' : w5.cell? ⟨G, 3, none⟩ = some ov := by rw [cell_of_row _ _ _ _ _ _ hG]; rfl
  have c4' : w5.cell? ⟨G, 4, none⟩ = some hv := by rw [cell_of_row _ _ _ _ _ _ hG]; rfl
  have c5' : w5.cell? ⟨G, 5, none⟩ = some (.int .i64 ((n : Int) + 1)) := by rw [cell_of_row _ _ _ _ _ _ hG]; rfl
  have HHD := Lib.hid hD; have HHG := Lib.hid hG
  clear hD hD1 hD2 hG
  have hsl := hok.slot (by omega)
  have hov := HV5.out.out
  rw [HOK.out.outl] at hov
  have hhv := HV5.out.has
  rw [HOK.out.hasl] at hhv
  obtain ⟨g1, q1, rfl, hoc, hocm⟩ := own_some hov (by omega)
  obtain ⟨g2, q2, rfl, hhc, hhcm⟩ := own_some hhv (by omega)
  obtain ⟨⟨v1, x1⟩, f1, ⟨v2, x2⟩, f2, hne⟩ := hand_cells HV5.out (k := bn) (by rw [HOK.out.outl]; exact hsl) (by rw [HOK.out.hasl]; exact hsl)
  have ib0 : (0 : Int) ≤ (bn : Int) := by omega
  have ib1 : (bn : Int) < (im : Int) := by omega
  have hgX : g1 ≠ X := by have := HXO.out g1 rfl; omega
  have hgR : g1 ≠ R := own_ne' hov HHD.out (by decide) g1 rfl
  have hgG : g1 ≠ G := own_ne' hov HHG.out (by decide) g1 rfl
  have hhX : g2 ≠ X := by have := HXH.out g2 rfl; omega
  have hhR : g2 ≠ R := own_ne' hhv HHD.out (by decide) g2 rfl
  have hhG : g2 ≠ G := own_ne' hhv HHG.out (by decide) g2 rfl
  clear hov hhv
  go_wp2_with fail
  have hS0 : (fun w' : World => w'.cell? ⟨G, 3, none⟩ = some (.slice (some ⟨g1, 0, none⟩) im q1) ∧ w'.cell? ⟨G, 4, none⟩ = some (.slice (some ⟨g2, 0, none⟩) im q2) ∧ w'.cell? ⟨X, 1, none⟩ = some (.int .i64 (an : Int)) ∧ w'.cell? ⟨X, 2, none⟩ = some (.int .i64 (bn : Int)) ∧ w'.cell? ⟨R, an, none⟩ = some (.int .u64 (s.r an : Int))) w5.drew := ⟨c3', c4', d1, d2, ra⟩
  refine wp_region_held_drew (S := fun w' : World => w'.cell? ⟨G, 3, none⟩ = some (.slice (some ⟨g1, 0, none⟩) im q1) ∧ w'.cell? ⟨G, 4, none⟩ = some (.slice (some ⟨g2, 0, none⟩) im q2) ∧ w'.cell? ⟨X, 1, none⟩ = some (.int .i64 (an : Int)) ∧ w'.cell? ⟨X, 2, none⟩ = some (.int .i64 (bn : Int)) ∧ w'.cell? ⟨R, an, none⟩ = some (.int .u64 (s.r an : Int))) (by kernel_rfl) hS0 (fun hS1 => ?_)
  refine take_slot (i := 0) (d := 216) (v := .pointer (some ⟨G, 3, none⟩)) rfl rfl (by kernel_rfl) (by kernel_rfl) (by kernel_rfl) (fun c a w h => hpan c a _ _ w h) (Or.inl ⟨by rfl, fun w' h => by go_simp⟩) hS1 ?_
  simp only [Act.put, List.setIfInBounds_toArray, List.set_cons_zero, List.set_cons_succ]
  refine take_slot (i := 1) (d := 217) (v := .slice (some ⟨g1, 0, none⟩) im q1) rfl rfl (by kernel_rfl) (by kernel_rfl) (by kernel_rfl) (fun c a w h => hpan c a _ _ w h) (Or.inl ⟨by rfl, fun w' h => by have e := h.1; go_simp⟩) hS1 ?_
  simp only [Act.put, List.setIfInBounds_toArray, List.set_cons_zero, List.set_cons_succ]
  refine take_slot (i := 2) (d := 218) (v := .pointer (some ⟨X, 2, none⟩)) rfl rfl (by kernel_rfl) (by kernel_rfl) (by kernel_rfl) (fun c a w h => hpan c a _ _ w h) (Or.inl ⟨by rfl, fun w' h => by go_simp⟩) hS1 ?_
  simp only [Act.put, List.setIfInBounds_toArray, List.set_cons_zero, List.set_cons_succ]
  refine take_slot (i := 3) (d := 219) (v := .int .i64 (bn : Int)) rfl rfl (by kernel_rfl) (by kernel_rfl) (by kernel_rfl) (fun c a w h => hpan c a _ _ w h) (Or.inl ⟨by rfl, fun w' h => by have e := h.2.2.2.1; go_simp⟩) hS1 ?_
  simp only [Act.put, List.setIfInBounds_toArray, List.set_cons_zero, List.set_cons_succ]
  refine take_slot (i := 4) (d := 220) (v := .pointer (some ⟨G, 4, none⟩)) rfl rfl (by kernel_rfl) (by kernel_rfl) (by kernel_rfl) (fun c a w h => hpan c a _ _ w h) (Or.inl ⟨by rfl, fun w' h => by go_simp⟩) hS1 ?_
  simp only [Act.put, List.setIfInBounds_toArray, List.set_cons_zero, List.set_cons_succ]
  refine take_slot (i := 5) (d := 221) (v := .slice (some ⟨g2, 0, none⟩) im q2) rfl rfl (by kernel_rfl) (by kernel_rfl) (by kernel_rfl) (fun c a w h => hpan c a _ _ w h) (Or.inl ⟨by rfl, fun w' h => by have e := h.2.1; go_simp⟩) hS1 ?_
  simp only [Act.put, List.setIfInBounds_toArray, List.set_cons_zero, List.set_cons_succ]
  refine take_slot (i := 6) (d := 222) (v := .pointer (some ⟨X, 2, none⟩)) rfl rfl (by kernel_rfl) (by kernel_rfl) (by kernel_rfl) (fun c a w h => hpan c a _ _ w h) (Or.inl ⟨by rfl, fun w' h => by go_simp⟩) hS1 ?_
  simp only [Act.put, List.setIfInBounds_toArray, List.set_cons_zero, List.set_cons_succ]
  refine take_slot (i := 7) (d := 223) (v := .int .i64 (bn : Int)) rfl rfl (by kernel_rfl) (by kernel_rfl) (by kernel_rfl) (fun c a w h => hpan c a _ _ w h) (Or.inl ⟨by rfl, fun w' h => by have e := h.2.2.2.1; go_simp⟩) hS1 ?_
  simp only [Act.put, List.setIfInBounds_toArray, List.set_cons_zero, List.set_cons_succ]
  refine take_slot (i := 8) (d := 224) (v := .pointer (some ⟨X, 1, none⟩)) rfl rfl (by kernel_rfl) (by kernel_rfl) (by kernel_rfl) (fun c a w h => hpan c a _ _ w h) (Or.inl ⟨by rfl, fun w' h => by go_simp⟩) hS1 ?_
  simp only [Act.put, List.setIfInBounds_toArray, List.set_cons_zero, List.set_cons_succ]
  refine take_slot (i := 9) (d := 225) (v := .int .i64 (an : Int)) rfl rfl (by kernel_rfl) (by kernel_rfl) (by kernel_rfl) (fun c a w h => hpan c a _ _ w h) (Or.inl ⟨by rfl, fun w' h => by have e := h.2.2.1; go_simp⟩) hS1 ?_
  simp only [Act.put, List.setIfInBounds_toArray, List.set_cons_zero, List.set_cons_succ]
  refine take_slot (i := 10) (d := 226) (v := .pointer (some ⟨R, an, none⟩)) rfl rfl (by kernel_rfl) (by kernel_rfl) (by kernel_rfl) (fun c a w h => hpan c a _ _ w h) (Or.inl ⟨by rfl, fun w' h => by go_simp⟩) hS1 ?_
  simp only [Act.put, List.setIfInBounds_toArray, List.set_cons_zero, List.set_cons_succ]
  refine take_slot (i := 11) (d := 227) (v := .int .u64 (s.r an : Int)) rfl rfl (by kernel_rfl) (by kernel_rfl) (by kernel_rfl) (fun c a w h => hpan c a _ _ w h) (Or.inl ⟨by rfl, fun w' h => by have e := h.2.2.2.2; go_simp⟩) hS1 ?_
  simp only [Act.put, List.setIfInBounds_toArray, List.set_cons_zero, List.set_cons_succ]
  refine take_slot (i := 12) (d := 228) (v := .pointer (some ⟨g1, bn, none⟩)) rfl rfl (by kernel_rfl) (by kernel_rfl) (by kernel_rfl) (fun c a w h => hpan c a _ _ w h) (Or.inl ⟨by rfl, fun w' h => by go_simp⟩) hS1 ?_
  simp only [Act.put, List.setIfInBounds_toArray, List.set_cons_zero, List.set_cons_succ]
  refine wpAnyH_ready (rs := [13]) (by kernel_rfl) (by simp) ?_
  refine AllReadyH.cons rfl (fun K hK => ?_) AllReadyH.nil
  go_simp
  refine hK.out _ _ ⟨(World.cell?_setCell_other _ _ _ _ (by simp <;> omega)).trans c3', (World.cell?_setCell_other _ _ _ _ (by simp <;> omega)).trans c4', (World.cell?_setCell_other _ _ _ _ (by simp <;> omega)).trans d1, (World.cell?_setCell_other _ _ _ _ (by simp <;> omega)).trans d2, (World.cell?_setCell_other _ _ _ _ (by simp <;> omega)).trans ra⟩ (fun hS2 => ?_)
  clear hK K
  refine take_slot (i := 14) (d := 229) (v := .pointer (some ⟨g2, bn, none⟩)) rfl rfl (by kernel_rfl) (by kernel_rfl) (by kernel_rfl) (fun c a w h => hpan c a _ _ w h) (Or.inl ⟨by rfl, fun w' h => by go_simp⟩) hS2 ?_
  simp only [Act.put, List.setIfInBounds_toArray, List.set_cons_zero, List.set_cons_succ]
  refine wpAnyH_ready (rs := [15]) (by kernel_rfl) (by simp) ?_
  refine AllReadyH.cons rfl (fun K hK => ?_) AllReadyH.nil
  go_simp
  refine hK.out _ _ ⟨(World.cell?_setCell_other _ _ _ _ (by simp <;> omega)).trans ((World.cell?_setCell_other _ _ _ _ (by simp <;> omega)).trans c3'), (World.cell?_setCell_other _ _ _ _ (by simp <;> omega)).trans ((World.cell?_setCell_other _ _ _ _ (by simp <;> omega)).trans c4'), (World.cell?_setCell_other _ _ _ _ (by simp <;> omega)).trans ((World.cell?_setCell_other _ _ _ _ (by simp <;> omega)).trans d1), (World.cell?_setCell_other _ _ _ _ (by simp <;> omega)).trans ((World.cell?_setCell_other _ _ _ _ (by simp <;> omega)).trans d2), (World.cell?_setCell_other _ _ _ _ (by simp <;> omega)).trans ((World.cell?_setCell_other _ _ _ _ (by simp <;> omega)).trans ra)⟩ (fun hS3 => ?_)
  clear hK K hS0 hS1 hS2 hS3
  refine wpAnyH_done (by kernel_rfl) ?_ _
  go_wp2_with fail
  exact hn (k + 1) (by first | rfl | (push_cast; omega)) (by omega) (by omega) ⟨{ s with out := s.out.set bn (s.r an), has := s.has.set bn true }, (VmAt.hand HV5.out bn (s.r an)).drew, HRUN.out.step HX.out B.exec_16, HOK.out.hand bn _ (HOK.out.reg an), ((HB5.out.setCell (hand_base HV5.out).1 _).setCell (hand_base HV5.out).2 _).drew⟩

set_option maxRecDepth 1000000 in
set_option maxHeartbeats 12800000 in
theorem case17 (Q : Exit → Act → World → Prop) (pa ia : Option Addr) (len cap pn pc im ic b off k n R G : Nat) (pv ov hv : Value) (ps : List B.Ins) (pay inp : List Nat) (s : B.St) (w wr : World) (hp : ProgAt w (some ⟨b, off, none⟩) len ps) (hinp : ListAt w ia im (inp.map u64V)) (hwi : B.Words inp) (hl : len ≤ 16384)
    (hnk : n ≤ k) (hvm : VmAt wr w.heap.size w.heap.size R G pv ov hv s n) (hrun : B.RunTo ps inp (B.start pay im) k s n) (hst : B.StOk pn im s) (hb : Below w.heap.size w wr)
    (hlt : k < len) (an bn nn mm : Nat) (hx : ps[k]? = some ⟨17, an, bn, nn, mm⟩) (hok : B.OpOk 17 an bn nn mm pn im (len - k - 1))
    (c3 c4 c5 c7 c8 c13 c14 c15 c16 c17 c18 c19 c20 c21 c22 c23 c24 c25 c26 c27 c28 c29 c30 c31 c267 u12 u32 u33 u34 u35 u36 u37 u38 u39 u40 u41 u42 u43 u44 u45 u46 u47 u48 u49 u50 u51 u52 u53 u54 u55 u56 u57 u58 u59 u60 u61 u62 u63 u64 u65 u66 u67 u68 u69 u70 u71 u72 u73 u74 u75 u76 u77 u78 u79 u80 u81 u82 u83 u84 u85 u86 u87 u88 u89 u90 u91 u92 u93 u94 u95 u96 u97 u98 u99 u100 u101 u102 u103 u104 u105 u106 u107 u108 u109 u110 u111 u112 u113 u114 u115 u116 u117 u118 u119 u120 u121 u122 u123 u124 u125 u126 u127 u128 u129 u130 u131 u132 u133 u134 u135 u136 u137 u138 u139 u140 u141 u142 u143 u144 u145 u146 u147 u148 u149 u150 u151 u152 u153 u154 u155 u156 u157 u158 u159 u160 u161 u162 u163 u164 u165 u166 u167 u168 u169 u170 u171 u172 u173 u174 u175 u176 u177 u178 u179 u180 u181 u182 u183 u184 u185 u186 u187 u188 u189 u190 u191 u192 u193 u194 u195 u196 u197 u198 u199 u200 u201 u202 u203 u204 u205 u206 u207 u208 u209 u210 u211 u212 u213 u214 u215 u216 u217 u218 u219 u220 u221 u222 u223 u224 u225 u226 u227 u228 u229 u230 u231 u232 u233 u234 u235 u236 u237 u238 u239 u240 u241 u242 u243 u244 u245 u246 u247 u248 u249 u250 u251 u252 u253 u254 u255 u256 u257 u258 u259 u260 u261 u262 u263 u264 u265 u266 : Value)
    (hn : ∀ {i : Int} (k' : Nat) {v12 v32 v33 v34 v35 v36 v37 v38 v39 v40 v41 v42 v43 v44 v45 v46 v47 v48 v49 v50 v51 v52 v53 v54 v55 v56 v57 v58 v59 v60 v61 v62 v63 v64 v65 v66 v67 v68 v69 v70 v71 v72 v73 v74 v75 v76 v77 v78 v79 v80 v81 v82 v83 v84 v85 v86 v87 v88 v89 v90 v91 v92 v93 v94 v95 v96 v97 v98 v99 v100 v101 v102 v103 v104 v105 v106 v107 v108 v109 v110 v111 v112 v113 v114 v115 v116 v117 v118 v119 v120 v121 v122 v123 v124 v125 v126 v127 v128 v129 v130 v131 v132 v133 v134 v135 v136 v137 v138 v139 v140 v141 v142 v143 v144 v145 v146 v147 v148 v149 v150 v151 v152 v153 v154 v155 v156 v157 v158 v159 v160 v161 v162 v163 v164 v165 v166 v167 v168 v169 v170 v171 v172 v173 v174 v175 v176 v177 v178 v179 v180 v181 v182 v183 v184 v185 v186 v187 v188 v189 v190 v191 v192 v193 v194 v195 v196 v197 v198 v199 v200 v201 v202 v203 v204 v205 v206 v207 v208 v209 v210 v211 v212 v213 v214 v215 v216 v217 v218 v219 v220 v221 v222 v223 v224 v225 v226 v227 v228 v229 v230 v231 v232 v233 v234 v235 v236 v237 v238 v239 v240 v241 v242 v243 v244 v245 v246 v247 v248 v249 v250 v251 v252 v253 v254 v255 v256 v257 v258 v259 v260 v261 v262 v263 v264 v265 v266 : Value} {w' : World}, i = k' → k < k' → k' ≤ len → VmRel ps pay inp pn im w R G pv ov hv k' (n + 1) w' → Q .normal ⟨#[.slice (some ⟨b, off, none⟩) len cap, .slice pa pn pc, .slice ia im ic, c3, c4, c5, .pointer (some ⟨w.heap.size, 0, none⟩), c7, c8, .pointer (some ⟨R, 0, none⟩), .pointer (some ⟨G, 0, none⟩), .int .i64 i, v12, c13, c14, c15, c16, c17, c18, c19, c20, c21, c22, c23, c24, c25, c26, c27, c28, c29, c30, c31, v32, v33, v34, v35, v36, v37, v38, v39, v40, v41, v42, v43, v44, v45, v46, v47, v48, v49, v50, v51, v52, v53, v54, v55, v56, v57, v58, v59, v60, v61, v62, v63, v64, v65, v66, v67, v68, v69, v70, v71, v72, v73, v74, v75, v76, v77, v78, v79, v80, v81, v82, v83, v84, v85, v86, v87, v88, v89, v90, v91, v92, v93, v94, v95, v96, v97, v98, v99, v100, v101, v102, v103, v104, v105, v106, v107, v108, v109, v110, v111, v112, v113, v114, v115, v116, v117, v118, v119, v120, v121, v122, v123, v124, v125, v126, v127, v128, v129, v130, v131, v132, v133, v134, v135, v136, v137, v138, v139, v140, v141, v142, v143, v144, v145, v146, v147, v148, v149, v150, v151, v152, v153, v154, v155, v156, v157, v158, v159, v160, v161, v162, v163, v164, v165, v166, v167, v168, v169, v170, v171, v172, v173, v174, v175, v176, v177, v178, v179, v180, v181, v182, v183, v184, v185, v186, v187, v188, v189, v190, v191, v192, v193, v194, v195, v196, v197, v198, v199, v200, v201, v202, v203, v204, v205, v206, v207, v208, v209, v210, v211, v212, v213, v214, v215, v216, v217, v218, v219, v220, v221, v222, v223, v224, v225, v226, v227, v228, v229, v230, v231, v232, v233, v234, v235, v236, v237, v238, v239, v240, v241, v242, v243, v244, v245, v246, v247, v248, v249, v250, v251, v252, v253, v254, v255, v256, v257, v258, v259, v260, v261, v262, v263, v264, v265, v266, c267], []⟩ w')
    (hr : ∀ {v12 v32 v33 v34 v35 v36 v37 v38 v39 v40 v41 v42 v43 v44 v45 v46 v47 v48 v49 v50 v51 v52 v53 v54 v55 v56 v57 v58 v59 v60 v61 v62 v63 v64 v65 v66 v67 v68 v69 v70 v71 v72 v73 v74 v75 v76 v77 v78 v79 v80 v81 v82 v83 v84 v85 v86 v87 v88 v89 v90 v91 v92 v93 v94 v95 v96 v97 v98 v99 v100 v101 v102 v103 v104 v105 v106 v107 v108 v109 v110 v111 v112 v113 v114 v115 v116 v117 v118 v119 v120 v121 v122 v123 v124 v125 v126 v127 v128 v129 v130 v131 v132 v133 v134 v135 v136 v137 v138 v139 v140 v141 v142 v143 v144 v145 v146 v147 v148 v149 v150 v151 v152 v153 v154 v155 v156 v157 v158 v159 v160 v161 v162 v163 v164 v165 v166 v167 v168 v169 v170 v171 v172 v173 v174 v175 v176 v177 v178 v179 v180 v181 v182 v183 v184 v185 v186 v187 v188 v189 v190 v191 v192 v193 v194 v195 v196 v197 v198 v199 v200 v201 v202 v203 v204 v205 v206 v207 v208 v209 v210 v211 v212 v213 v214 v215 v216 v217 v218 v219 v220 v221 v222 v223 v224 v225 v226 v227 v228 v229 v230 v231 v232 v233 v234 v235 v236 v237 v238 v239 v240 v241 v242 v243 v244 v245 v246 v247 v248 v249 v250 v251 v252 v253 v254 v255 v256 v257 v258 v259 v260 v261 v262 v263 v264 v265 v266 : Value} {w' : World}, (∀ j : Nat, w'.cell? ⟨w.heap.size, j, none⟩ = (#[.bool true, .int .i64 (bn : Int), .slice none 0 0, .slice none 0 0, .slice none 0 0, .int .i64 ((n : Int) + 1)] : Array Value)[j]?) → RunOut (B.run ps inp 0 (B.start pay im)) pn im w (.returned (.tuple #[.agg #[.bool true, .int .i64 (bn : Int), .slice none 0 0, .slice none 0 0, .slice none 0 0, .int .i64 ((n : Int) + 1)], .nilIface])) w' → Q .ret ⟨#[.slice (some ⟨b, off, none⟩) len cap, .slice pa pn pc, .slice ia im ic, c3, c4, c5, .pointer (some ⟨w.heap.size, 0, none⟩), .nilIface, c8, .pointer (some ⟨R, 0, none⟩), .pointer (some ⟨G, 0, none⟩), .int .i64 (k : Int), v12, c13, c14, c15, c16, c17, c18, c19, c20, c21, c22, c23, c24, c25, c26, c27, c28, c29, c30, c31, v32, v33, v34, v35, v36, v37, v38, v39, v40, v41, v42, v43, v44, v45, v46, v47, v48, v49, v50, v51, v52, v53, v54, v55, v56, v57, v58, v59, v60, v61, v62, v63, v64, v65, v66, v67, v68, v69, v70, v71, v72, v73, v74, v75, v76, v77, v78, v79, v80, v81, v82, v83, v84, v85, v86, v87, v88, v89, v90, v91, v92, v93, v94, v95, v96, v97, v98, v99, v100, v101, v102, v103, v104, v105, v106, v107, v108, v109, v110, v111, v112, v113, v114, v115, v116, v117, v118, v119, v120, v121, v122, v123, v124, v125, v126, v127, v128, v129, v130, v131, v132, v133, v134, v135, v136, v137, v138, v139, v140, v141, v142, v143, v144, v145, v146, v147, v148, v149, v150, v151, v152, v153, v154, v155, v156, v157, v158, v159, v160, v161, v162, v163, v164, v165, v166, v167, v168, v169, v170, v171, v172, v173, v174, v175, v176, v177, v178, v179, v180, v181, v182, v183, v184, v185, v186, v187, v188, v189, v190, v191, v192, v193, v194, v195, v196, v197, v198, v199, v200, v201, v202, v203, v204, v205, v206, v207, v208, v209, v210, v211, v212, v213, v214, v215, v216, v217, v218, v219, v220, v221, v222, v223, v224, v225, v226, v227, v228, v229, v230, v231, v232, v233, v234, v235, v236, v237, v238, v239, v240, v241, v242, v243, v244, v245, v246, v247, v248, v249, v250, v251, v252, v253, v254, v255, v256, v257, v258, v259, v260, v261, v262, v263, v264, v265, v266, c267], []⟩ w') :
    Code.wp Tryz.prog bodyRun Q ⟨#[.slice (some ⟨b, off, none⟩) len cap, .slice pa pn pc, .slice ia im ic, c3, c4, c5, .pointer (some ⟨w.heap.size, 0, none⟩), c7, c8, .pointer (some ⟨R, 0, none⟩), .pointer (some ⟨G, 0, none⟩), .int .i64 (k : Int), u12, c13, c14, c15, c16, c17, c18, c19, c20, c21, c22, c23, c24, c25, c26, c27, c28, c29, c30, c31, u32, u33, u34, u35, u36, u37, u38, u39, u40, u41, u42, u43, u44, u45, u46, u47, u48, u49, u50, u51, u52, u53, u54, u55, u56, u57, u58, u59, u60, u61, u62, u63, u64, u65, u66, u67, u68, u69, u70, u71, u72, u73, u74, u75, u76, u77, u78, u79, u80, u81, u82, u83, u84, u85, u86, u87, u88, u89, u90, u91, u92, u93, u94, u95, u96, u97, u98, u99, u100, u101, u102, u103, u104, u105, u106, u107, u108, u109, u110, u111, u112, u113, u114, u115, u116, u117, u118, u119, u120, u121, u122, u123, u124, u125, u126, u127, u128, u129, u130, u131, u132, u133, u134, u135, u136, u137, u138, u139, u140, u141, u142, u143, u144, u145, u146, u147, u148, u149, u150, u151, u152, u153, u154, u155, u156, u157, u158, u159, u160, u161, u162, u163, u164, u165, u166, u167, u168, u169, u170, u171, u172, u173, u174, u175, u176, u177, u178, u179, u180, u181, u182, u183, u184, u185, u186, u187, u188, u189, u190, u191, u192, u193, u194, u195, u196, u197, u198, u199, u200, u201, u202, u203, u204, u205, u206, u207, u208, u209, u210, u211, u212, u213, u214, u215, u216, u217, u218, u219, u220, u221, u222, u223, u224, u225, u226, u227, u228, u229, u230, u231, u232, u233, u234, u235, u236, u237, u238, u239, u240, u241, u242, u243, u244, u245, u246, u247, u248, u249, u250, u251, u252, u253, u254, u255, u256, u257, u258, u259, u260, u261, u262, u263, u264, u265, u266, c267], []⟩ wr := by
  obtain ⟨b', off', e', hbl, hat⟩ := hp.at_ k _ hx
  simp only [Option.some.injEq, Addr.mk.injEq, and_true] at e'
  obtain ⟨rfl, rfl⟩ := e'
  obtain ⟨h0, h1, h2, h3, h4⟩ := hat.below hb hbl
  simp only at h0 h1 h2 h3 h4
  have HX := Lib.hid hx
  have HV := Lib.hid hvm
  have HRUN := Lib.hid hrun
  have HOK := Lib.hid hst
  have HB := Lib.hid hb
  have HINP := Lib.hid hinp
  have HWI := Lib.hid hwi
  have hGlt : G < wr.heap.size := lt_of_block hvm.ran
  have hsz := hb.size
  have hbG := hvm.bG
  have g5 : wr.cell? ⟨G, 5, none⟩ = some (.int .i64 (n : Int)) := by rw [cell_of_row _ _ _ _ _ _ hvm.ran]; rfl
  have gf5 : wr.frozen? ⟨G, 5, none⟩ = false := frozen_blk hvm.ran
  clear hp hinp hwi hrun hst hx hat hvm hb
  conv => arg 2; whnf
  go_upto_region 12 with fail
  obtain ⟨w5, hw5⟩ : ∃ w5, ((wr.setCell ⟨G, 5, none⟩ (.int .i64 ((n : Int) + 1))).alloc (.cells #[.int .i64 17, .int .i64 (an : Int), .int .i64 (bn : Int), .int .i64 (nn : Int), .int .u64 (mm : Int)] 33)) = w5 := ⟨_, rfl⟩
  rw [hw5]
  have HV5 : Hid (VmAt w5 w.heap.size w.heap.size R G pv ov hv s (n + 1)) := by rw [← hw5]; exact HV.out.tick.alloc _
  have hI5 : InsAt w5 wr.heap.size 0 ⟨17, an, bn, nn, mm⟩ := by rw [← hw5]; exact box_tick ⟨17, an, bn, nn, mm⟩ wr G _
  have HB5 : Hid (Below w.heap.size w w5) := by rw [← hw5]; exact (HB.out.setCell hbG _).alloc (by simp; omega) _
  have hXlt : wr.heap.size < w5.heap.size := World.block_lt_of_cell? w5 _ hI5.c0
  skip
  clear hw5 h0 h1 h2 h3 h4 g5 gf5 HB HV hGlt hsz
  generalize wr.heap.size = X at *
  obtain ⟨d0, d1, d2, d3, d4⟩ := hI5
  simp only [Nat.zero_add] at d0 d1 d2 d3 d4
  obtain ⟨D, hD, hD1, hD2, hG, hbR, hbL⟩ := vm_parts HV5.out
  have HREG : Hid (∀ j, j < 16 → w5.cell? ⟨R, j, none⟩ = some (.int .u64 (s.r j : Int))) := fun j hj => by rw [cell_of_row _ _ _ _ _ _ hD]; exact hD2 j hj
  have ha15 := hok.ha
  have ia0 : (0 : Int) ≤ (an : Int) := by omega
  have ia1 : (an : Int) < 16 := by omega
  have ra := HREG.out an (by omega)
  have fr : w5.frozen? ⟨R, an, none⟩ = false := frozen_blk hD
  have c2 : w5.cell? ⟨G, 2, none⟩ = some pv := by rw [cell_of_row _ _ _ _ _ _ hG]; rfl
  have c3' : w5.cell? ⟨G, 3, none⟩ = some ov := by rw [cell_of_row _ _ _ _ _ _ hG]; rfl
  have c4' : w5.cell? ⟨G, 4, none⟩ = some hv := by rw [cell_of_row _ _ _ _ _ _ hG]; rfl
  have c5' : w5.cell? ⟨G, 5, none⟩ = some (.int .i64 ((n : Int) + 1)) := by rw [cell_of_row _ _ _ _ _ _ hG]; rfl
  skip
  clear hD hD1 hD2 hG
  have hsl := hok.slot (by omega)
  obtain ⟨n1, n64⟩ := hok.width (by omega)
  by_cases hm1 : mm = 1
  · subst hm1
    have HD : Hid (decide (1 = 1) = true) := by show decide _ = _; simp
    cases hf : B.fits (s.r an) nn true with
    | true =>
      have HF := Lib.hid hf
      clear hf
      go_wp2_with fail
      refine wp_region_still_lit (by kernel_rfl) (by kernel_rfl) ?_
      repeat (first | still_step | still_call (fits_still (s.r an) nn _ _ _ n1 n64 (HOK.out.reg an) HF.out))
      refine wpStill_nil ?_
      go_wp2_with fail
      exact hn (k + 1) (by first | rfl | (push_cast; omega)) (by omega) (by omega) ⟨s, HV5.out.drew, HRUN.out.step HX.out (B.exec_17y (by rw [HD.out]; exact HF.out)), HOK.out, HB5.out.drew⟩
    | false =>
      have HF := Lib.hid hf
      clear hf
      go_wp2_with fail
      refine wp_region_still_lit (by kernel_rfl) (by kernel_rfl) ?_
      repeat (first | still_step | still_call (fits_still (s.r an) nn _ _ _ n1 n64 (HOK.out.reg an) HF.out))
      refine wpStill_nil ?_
      have HV6 := Lib.hid HV5.out.drew
      go_wp2_with (refine store_ran (by rfl) _ _ (by rfl) (by rfl) (by rfl) HV6.out.res (by simp [Value.oneCell']) ?_; intro w6 l6 g6; have HG6 := Lib.hid g6; have HL6 := Lib.hid l6; clear l6 g6)
      exact hr (fun j => cell_of_row _ _ _ _ _ _ HL6.out) (run_met_fail (n := n + 1) (HRUN.out.fail HX.out (B.exec_17n (by rw [HD.out]; exact HF.out))) HG6.out HB5.out.drew (Nat.le_refl _))
  · have q1 : ((mm : Int) == 1) = false := by simp; omega
    have HD : Hid (decide (mm = 1) = false) := by show decide _ = _; simp; exact hm1
    clear hm1
    cases hf : B.fits (s.r an) nn false with
    | true =>
      have HF := Lib.hid hf
      clear hf
      go_wp2_with fail
      refine wp_region_still_lit (by kernel_rfl) (by kernel_rfl) ?_
      repeat (first | still_step | still_call (fits_still (s.r an) nn _ _ _ n1 n64 (HOK.out.reg an) HF.out))
      refine wpStill_nil ?_
      go_wp2_with fail
      exact hn (k + 1) (by first | rfl | (push_cast; omega)) (by omega) (by omega) ⟨s, HV5.out.drew, HRUN.out.step HX.out (B.exec_17y (by rw [HD.out]; exact HF.out)), HOK.out, HB5.out.drew⟩
    | false =>
      have HF := Lib.hid hf
      clear hf
      go_wp2_with fail
      refine wp_region_still_lit (by kernel_rfl) (by kernel_rfl) ?_
      repeat (first | still_step | still_call (fits_still (s.r an) nn _ _ _ n1 n64 (HOK.out.reg an) HF.out))
      refine wpStill_nil ?_
      have HV6 := Lib.hid HV5.out.drew
      go_wp2_with (refine store_ran (by rfl) _ _ (by rfl) (by rfl) (by rfl) HV6.out.res (by simp [Value.oneCell']) ?_; intro w6 l6 g6; have HG6 := Lib.hid g6; have HL6 := Lib.hid l6; clear l6 g6)
      exact hr (fun j => cell_of_row _ _ _ _ _ _ HL6.out) (run_met_fail (n := n + 1) (HRUN.out.fail HX.out (B.exec_17n (by rw [HD.out]; exact HF.out))) HG6.out HB5.out.drew (Nat.le_refl _))

end Code
end Go.Proofs.YtdpbkchegbkefaaGreatDoor
