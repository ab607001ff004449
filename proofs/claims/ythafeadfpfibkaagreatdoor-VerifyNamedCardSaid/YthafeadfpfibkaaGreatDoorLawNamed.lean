/- 'VerifyNamed': a program may be run just if it may with its registers named otherwise; where it isn't, the same is told: the statement holds of every input. No condition beyond the card's own: the listed variables hold what the program's text lays. -/
import Derived.Test.YthafeadfpfibkaaGreatDoorFrame
import Derived.Test.YthafeadfpfibkaaGreatDoorDoor
import Derived.Test.YthafeadfpfibkaaGreatDoorFactNamed
import Derived.Test.YthafeadfpfibkaaGreatDoorNamed
import Derived.Deep.MidRow
import Derived.Deep.RegionLaw
namespace Go.Proofs.YthafeadfpfibkaaGreatDoor
open Go.ChangeShapes Go.WideShapes Go.ChangeAt Go.RowKit Go.Proofs.YthafeadfpfibkaaGreatDoor.Code

namespace LawNamed

attribute [local go_sem ↓] Go.wp_at_zero Go.wp_at_succ

theorem at_self_nil : atB .nil 0 0 0 = true := by decide
theorem at_self (i : Int) : atB (.fault 21 i) 21 0 i = true := by unfold atB; simp [Er.num, Er.place]
/-- .. its values one by one -/
theorem named_vals (x : B.Ins) (k : Int) (hr : x.right = true) (hk0 : 0 ≤ k) (hk1 : k < 16) (w : World) :
    Calls Tryz.prog 32 #[.agg #[.int .i64 x.op, .int .i64 x.a, .int .i64 x.b, .int .i64 x.n, .int .u64 x.imm], .int .i64 k] w
      (fun e w' => e = .returned (.agg #[.int .i64 (x.ren (renF k)).op, .int .i64 (x.ren (renF k)).a, .int .i64 (x.ren (renF k)).b, .int .i64 (x.ren (renF k)).n, .int .u64 (x.ren (renF k)).imm]) ∧ Below w.heap.size w w') := by
  exact named_any x k hr hk0 hk1 w

/-- a value is taken first, its slot told by its number -/
theorem take_slot {ops : Array Oper} {Q : Exit → Act → World → Prop} {S : World → Prop} {i d fuel : Nat} {listed : Array Bool} {oi : Oper} {v : Value} {a : Act} {w : World} (q : ops[i]? = some oi) (hd : oi.dst = some d)
    (hs : Region.noSelect ops = true) (hf : Region.free .any ops listed i = true) (hr : (Region.ready .any ops listed).contains i = true) (hQ : ∀ c a w, Q (.panic c) (a.put (some d) v) w → Q (.panic c) a w)
    (hy : YieldsIf Tryz.prog ops S oi v a) (hS : S w) (h : wpAnyH Tryz.prog .any ops Q S fuel (listed.setIfInBounds i true) (a.put (some d) v) w) : wpAnyH Tryz.prog .any ops Q S (fuel + 1) listed a w := by
  refine wpAnyH_take q hs hf hr (fun c a w h => hQ c a w (by rw [hd] at h; exact h)) hy hS ?_
  rw [hd]
  exact h

theorem ins_range {w : World} {b o : Nat} {x : B.Ins} (h : InsAt w b o x) : w.rangeAt b o (cellsI x) := by
  obtain ⟨h0, h1, h2, h3, h4⟩ := h
  intro j v hv
  have hj : j < 5 := by have := (List.getElem?_eq_some_iff.1 hv).1; rw [cellsI_length] at this; exact this
  have : j = 0 ∨ j = 1 ∨ j = 2 ∨ j = 3 ∨ j = 4 := by omega
  rcases this with rfl | rfl | rfl | rfl | rfl <;> (simp [cellsI] at hv; subst hv; assumption)

/-- a box for an instruction is made -/
theorem step_box {ops : Array Oper} {o : Oper} {a : Act} {K : Act → World → Prop} {Q : Exit → Act → World → Prop} {X : Prop} {W : World} (hgd : o.guard = none) (ho : o.op = .alloc 38) {base : Nat} (hb : base ≤ W.heap.size)
    (h : ∀ G w', w'.heap[G]? = some (.cells #[.int .i64 0, .int .i64 0, .int .i64 0, .int .i64 0, .int .u64 0] 38 (0, 0)) → base ≤ G → Below base W w' → K (a.put o.dst (.pointer (some ⟨G, 0, none⟩))) w') :
    if Region.wanted o (yielded ops a.tmps) = true then Oper.wp Tryz.prog o a W K Q else X := by
  have hw : Region.wanted o (yielded ops a.tmps) = true := by simp [Region.wanted, hgd]
  rw [if_pos hw]
  unfold Oper.wp
  simp only [execOp, ho]
  go_simp
  exact h _ _ (heap_alloc_new W _) hb ((Below.refl _ _).alloc hb _)

/-- an instruction is stored in it -/
theorem step_ins {ops : Array Oper} {o : Oper} {a : Act} {K : Act → World → Prop} {Q : Exit → Act → World → Prop} {X : Prop} {W : World} (hgd : o.guard = none) (p v : Operand) (ho : o.op = .store 38 p v)
    {G base : Nat} {c0 c1 c2 c3 c4 d0 d1 d2 d3 d4 : Value} (hx : a.eval p = .pointer (some ⟨G, 0, none⟩)) (hy : a.eval v = .agg #[c0, c1, c2, c3, c4]) (hG : W.heap[G]? = some (.cells #[d0, d1, d2, d3, d4] 38 (0, 0))) (hb : base ≤ G) (h1 : (#[c0, c1, c2, c3, c4] : Array Value).all (·.oneCell') = true)
    (h : ∀ w', w'.heap[G]? = some (.cells #[c0, c1, c2, c3, c4] 38 (0, 0)) → Below base W w' → K (a.put o.dst undef) w') :
    if Region.wanted o (yielded ops a.tmps) = true then Oper.wp Tryz.prog o a W K Q else X := by
  have hw : Region.wanted o (yielded ops a.tmps) = true := by simp [Region.wanted, hgd]
  rw [if_pos hw]
  have hi : (Tryz.prog.info? 38).map (·.size) = some 5 := by kernel_rfl
  refine wp_store_mid 38 p v ho G 0 #[c0, c1, c2, c3, c4] hx hy (fun j hj => ⟨?_, frozen_blk hG⟩) hi h1 ?_
  · rw [Nat.zero_add, cell_of_row _ _ _ _ _ _ hG]
    have : j < 5 := hj
    rw [Array.getElem?_eq_getElem (by simpa using this)]; rfl
  · refine h _ ?_ ?_
    · exact blk_setCell (off := 4) (blk_setCell (off := 3) (blk_setCell (off := 2) (blk_setCell (off := 1) (blk_setCell (off := 0) hG c0) c1) c2) c3) c4
    · exact (((((Below.refl base W).setCell (p := ⟨G, 0, none⟩) hb _).setCell (p := ⟨G, 1, none⟩) hb _).setCell (p := ⟨G, 2, none⟩) hb _).setCell (p := ⟨G, 3, none⟩) hb _).setCell (p := ⟨G, 4, none⟩) hb _
set_option maxRecDepth 100000 in
set_option maxHeartbeats 3200000 in
theorem law (a0 : Option Addr) (len0 cap0 : Nat) (ps0 : List B.Ins) (n1 : Int) (n2 : Int) (n3 : Int) (w : World) (hp0 : ProgAt w a0 len0 ps0) (hwf0 : ∀ y ∈ ps0, y.Wf) (hl0 : len0 * 40 ≤ 140737488351232) (hn0 : a0 = none → cap0 = 0) (hR : Ready w) (hi1 : B.In64 n1) (hi2 : B.In64 n2) (hi3 : B.In64 n3) :
    Calls Tryz.prog 11 #[.slice a0 len0 cap0, .int .i64 n1, .int .i64 n2, .int .i64 n3] w (BoolOut true w) := by
  have _U0 := Lib.hid hn0
  have _U1 := Lib.hid hi1
  have _U2 := Lib.hid hi2
  have HP := Lib.hid hp0
  have HWF := Lib.hid hwf0
  have HR := Lib.hid hR
  have hlw0 : len0 ≤ 9223372036854775807 := by omega
  have hrng := pickV_range n3 16 (by omega)
  have HPK := Lib.hid (pick_any n3 16 hi3 (by omega) (by omega))
  clear hp0 hwf0 hR hi1 hi2 hi3 hn0
  generalize pickV n3 16 = kk at *
  obtain ⟨kk0, kk1⟩ := hrng
  go_enter Tryz.func11, Tryz.ntmps11
  go_wp2_with fail
  refine (works_any _ HR.out).mono ?_
  rintro e w1 ⟨rfl, hb1⟩
  have HB1 := Lib.hid hb1
  have hs1 := hb1.size
  clear hb1
  go_wp2_with fail
  refine (program_er a0 len0 cap0 ps0 n1 n2 _ (HP.out.below HB1.out (Nat.le_refl _)) HWF.out (HR.out.tabs.below HB1.out (Nat.le_refl _)) hlw0).mono ?_
  rintro e w2 ⟨rfl, hb2⟩
  have HB2 := Lib.hid (HB1.out.trans (hb2.mono hs1))
  have hs2 := HB2.out.size
  clear hb2
  have hcs := er_cases ps0 n1 n2
  have HOK := Lib.hid (progEr_ok ps0 n1 n2)
  have HREN : Hid (B.OkTouch ps0 n1 n2 → progEr (ps0.map (B.Ins.ren (renF kk))) n1 n2 = progEr ps0 n1 n2) := progEr_ren kk0 kk1
  generalize progEr ps0 n1 n2 = er at *
  go_wp2_with fail
  refine (num_any er HOK.out _).mono ?_
  rintro e w3 ⟨rfl, hb3⟩
  have HB3 := Lib.hid (HB2.out.trans (hb3.mono hs2))
  have hs3 := HB3.out.size
  clear hb3
  rcases hcs with h | h | h
  · rcases h with h | h | h
    all_goals rw [h]
    all_goals clear h
    all_goals go_wp2_with fail
    all_goals go_ret
    all_goals exact ⟨rfl, HB3.out⟩
  · obtain ⟨n, i, rfl, hn, hi⟩ := h
    have hi' : i < len0 := by rw [HP.out.len]; exact hi
    clear hi
    rcases hn with rfl | rfl
    · rw [show ((Er.fault 16 (i : Int)).num : Int) = 16 from rfl]
      go_wp2_with fail
      refine (place_any (.fault 16 i) HOK.out _ (HR.out.err.below HB3.out (Nat.le_refl _))).mono ?_
      rintro e w4 ⟨rfl, hb4⟩
      have HB4 := Lib.hid (HB3.out.trans (hb4.mono hs3))
      clear hb4
      simp only [Er.place]
      go_wp2_with fail
      go_ret
      exact ⟨rfl, HB4.out⟩
    · rw [show ((Er.fault 18 (i : Int)).num : Int) = 18 from rfl]
      go_wp2_with fail
      refine (place_any (.fault 18 i) HOK.out _ (HR.out.err.below HB3.out (Nat.le_refl _))).mono ?_
      rintro e w4 ⟨rfl, hb4⟩
      have HB4 := Lib.hid (HB3.out.trans (hb4.mono hs3))
      clear hb4
      simp only [Er.place]
      go_wp2_with fail
      go_ret
      exact ⟨rfl, HB4.out⟩
  · obtain ⟨hok, her⟩ := h
    have HT := Lib.hid hok
    have HER := Lib.hid her
    have hm : (er.num : Int) = 0 ∨ (er.num : Int) = 21 := by
      rcases her with rfl | ⟨i, rfl⟩
      · exact .inl rfl
      · exact .inr rfl
    clear hok her
    obtain ⟨mm, hmm⟩ : ∃ mm : Int, (er.num : Int) = mm := ⟨_, rfl⟩
    rw [hmm] at hm ⊢
    have HMM := Lib.hid hmm
    have q1 : (mm == 1) = false := by simp; omega
    have q5 : (mm == 5) = false := by simp; omega
    have q20 : (mm == 20) = false := by simp; omega
    have q16 : (mm == 16) = false := by simp; omega
    have q18 : (mm == 18) = false := by simp; omega
    clear hmm hm
    go_wp2_with fail
    go_loopw [14, 15] (fun v i wr => ∃ (k : Nat) (ao : Option Addr) (cp : Nat), k ≤ len0 ∧ i = .int .i64 k ∧ v = .slice ao k cp ∧ OwnP wr w3.heap.size ao k cp ((ps0.take k).map (B.Ins.ren (renF kk))) ∧ Below w3.heap.size w3 wr)
      (fun _ i _ => len0 - (intOf i).toNat)
    case atStart => exact ⟨0, none, 0, Nat.zero_le _, rfl, rfl, OwnP.nil _ _, Below.refl _ _⟩
    case round =>
      obtain ⟨k, ao, cp, hk, rfl, rfl, hown, hb⟩ := hrel
      have HB := Lib.hid hb
      have HO := Lib.hid hown
      have hsz := hb.size
      by_cases hlt : k < len0
      · have hx : ps0[k]? = some (ps0[k]'(by have := HP.out.len; omega)) := List.getElem?_eq_getElem _
        generalize ps0[k]'(by have := HP.out.len; omega) = x at hx
        obtain ⟨b, off, rfl, hbl, hat⟩ := HP.out.at_ k x hx
        have hlen0 := HP.out.len
        obtain ⟨h0, h1, h2, h3, h4⟩ := (hat.below HB3.out hbl).below hb (by omega)
        have HX := Lib.hid hx
        have HRX := Lib.hid (HT.out.right k x hx)
        have hbr : b < wr.heap.size := by omega
        clear hx hat hb hown hlen0
        have HAT : Hid (InsAt wr b (off + k * 5) x) := ⟨h0, h1, h2, h3, h4⟩
        clear h0 h1 h2 h3 h4
        go_wp2_with fail
        refine wp_region_held_drew (S := Below wr.heap.size wr) (by kernel_rfl) (Below.refl _ _).drew (fun hS1 => ?_)
        refine take_slot (i := 0) (d := 68) (v := .slice (some ⟨b, off, none⟩) len0 cap0) rfl rfl (by kernel_rfl) (by kernel_rfl) (by kernel_rfl) (fun _ _ _ h => h) (Or.inl ⟨by rfl, fun w' _ => by go_simp⟩) hS1 ?_
        simp only [Act.put, List.setIfInBounds_toArray, List.set_cons_zero, List.set_cons_succ]
        refine take_slot (i := 1) (d := 69) (v := .int .i64 (k : Int)) rfl rfl (by kernel_rfl) (by kernel_rfl) (by kernel_rfl) (fun _ _ _ h => h) (Or.inl ⟨by rfl, fun w' _ => by go_simp⟩) hS1 ?_
        simp only [Act.put, List.setIfInBounds_toArray, List.set_cons_zero, List.set_cons_succ]
        refine take_slot (i := 2) (d := 70) (v := .pointer (some ⟨b, off + k * 5, none⟩)) rfl rfl (by kernel_rfl) (by kernel_rfl) (by kernel_rfl) (fun _ _ _ h => h) (Or.inl ⟨by rfl, fun w' _ => by go_simp⟩) hS1 ?_
        simp only [Act.put, List.setIfInBounds_toArray, List.set_cons_zero, List.set_cons_succ]
        refine take_slot (i := 3) (d := 71) (v := .agg #[.int .i64 x.op, .int .i64 x.a, .int .i64 x.b, .int .i64 x.n, .int .u64 x.imm]) rfl rfl (by kernel_rfl) (by kernel_rfl) (by kernel_rfl) (fun _ _ _ h => h) (yieldsIf_load_mid (by rfl) _ _ rfl b (off + k * 5) (by rfl) (cellsI x) _ (fun w' h => ins_range (HAT.out.below h hbr)) Tryz.underlying38 rfl (by kernel_rfl)) hS1 ?_
        simp only [Act.put, List.setIfInBounds_toArray, List.set_cons_zero, List.set_cons_succ]
        refine take_slot (i := 4) (d := 72) (v := .int .i64 n3) rfl rfl (by kernel_rfl) (by kernel_rfl) (by kernel_rfl) (fun _ _ _ h => h) (Or.inl ⟨by rfl, fun w' _ => by go_simp⟩) hS1 ?_
        simp only [Act.put, List.setIfInBounds_toArray, List.set_cons_zero, List.set_cons_succ]
        refine wpAnyH_ready (rs := [5, 7]) (by kernel_rfl) (by simp) ?_
        refine AllReadyH.cons rfl (fun K hK => ?_) (AllReadyH.cons rfl (fun K hK => ?_) AllReadyH.nil)
        · go_simp
          refine (HPK.out _).mono ?_
          rintro e w4 ⟨rfl, rfl⟩
          refine hK.out _ _ hS1 (fun hS2 => ?_)
          clear hK K
          refine wpAnyH_ready (rs := [6, 7]) (by kernel_rfl) (by simp) ?_
          refine AllReadyH.cons rfl (fun K hK => ?_) (AllReadyH.cons rfl (fun K hK => ?_) AllReadyH.nil)
          · go_simp
            refine (named_vals x kk HRX.out kk0 kk1 _).mono ?_
            rintro e w5 ⟨rfl, hb5⟩
            refine hK.out _ _ (hS2.trans (hb5.mono hS2.size)) (fun hS3 => ?_)
            clear hK K
            have hs5 := hS3.size
            refine wpAnyH_ready (rs := [7]) (by kernel_rfl) (by simp) ?_
            refine AllReadyH.cons rfl (fun K hK => ?_) AllReadyH.nil
            refine step_box (by rfl) (by rfl) hs5 ?_
            intro G w6 hbk hG hb6
            refine hK.out _ _ (hS3.trans hb6) (fun hSn => ?_)
            clear hK K
            refine wpAnyH_ready (rs := [8]) (by kernel_rfl) (by simp) ?_
            refine AllReadyH.cons rfl (fun K hK => ?_) AllReadyH.nil
            refine step_ins (by rfl) _ _ (by rfl) (G := G) (base := wr.heap.size) (by rfl) (by rfl) hbk (by omega) (by simp [Value.oneCell']) ?_
            intro w9 hbk9 hb9
            refine hK.out _ _ (hSn.trans hb9) (fun hS9 => ?_)
            clear hK K
            refine wpAnyH_done (by kernel_rfl) ?_ _
            have k0 : w9.cell? ⟨G, 0, none⟩ = some (.int .i64 (x.ren (renF kk)).op) := (cell_of_row _ _ _ _ _ _ hbk9).trans rfl
            have k1 : w9.cell? ⟨G, 1, none⟩ = some (.int .i64 (x.ren (renF kk)).a) := (cell_of_row _ _ _ _ _ _ hbk9).trans rfl
            have k2 : w9.cell? ⟨G, 2, none⟩ = some (.int .i64 (x.ren (renF kk)).b) := (cell_of_row _ _ _ _ _ _ hbk9).trans rfl
            have k3 : w9.cell? ⟨G, 3, none⟩ = some (.int .i64 (x.ren (renF kk)).n) := (cell_of_row _ _ _ _ _ _ hbk9).trans rfl
            have k4 : w9.cell? ⟨G, 4, none⟩ = some (.int .u64 (x.ren (renF kk)).imm) := (cell_of_row _ _ _ _ _ _ hbk9).trans rfl
            have HB9 := Lib.hid hS9
            have hsz9 := hS9.size
            have HX2 : Hid ((ps0.take (k + 1)).map (B.Ins.ren (renF kk)) = (ps0.take k).map (B.Ins.ren (renF kk)) ++ [x.ren (renF kk)]) := by rw [take_snoc' _ _ _ HX.out, List.map_append]; rfl
            clear hbk9 hb9 hS9 hbk hSn
            generalize x.ren (renF kk) = y at *
            go_wp2_with (at_builtin; refine app_ins rfl _ _ rfl w3.heap.size rfl (HO.out.kept HB9.out) rfl (by omega) (by omega) ?_; intro ao' cp' w10 hown10 hb10 hs10)
            go_roundw
            case rel => exact ⟨k + 1, ao', cp', by omega, by go_num, rfl, by rw [HX2.out]; exact hown10, (HB.out.trans (HB9.out.mono hsz)).trans hb10⟩
            case measure => simp [intOf]; omega
          · refine step_box (by rfl) (by rfl) hS2.size ?_
            intro G w6 hbk hG hb6
            refine hK.out _ _ (hS2.trans hb6) (fun hS3 => ?_)
            clear hK K
            refine wpAnyH_ready (rs := [6]) (by kernel_rfl) (by simp) ?_
            refine AllReadyH.cons rfl (fun K hK => ?_) AllReadyH.nil
            go_simp
            refine (named_vals x kk HRX.out kk0 kk1 _).mono ?_
            rintro e w5 ⟨rfl, hb5⟩
            replace hbk := (hb5.block G (lt_of_block hbk)).trans hbk
            refine hK.out _ _ (hS3.trans (hb5.mono hS3.size)) (fun hSn => ?_)
            clear hK K
            refine wpAnyH_ready (rs := [8]) (by kernel_rfl) (by simp) ?_
            refine AllReadyH.cons rfl (fun K hK => ?_) AllReadyH.nil
            refine step_ins (by rfl) _ _ (by rfl) (G := G) (base := wr.heap.size) (by rfl) (by rfl) hbk (by omega) (by simp [Value.oneCell']) ?_
            intro w9 hbk9 hb9
            refine hK.out _ _ (hSn.trans hb9) (fun hS9 => ?_)
            clear hK K
            refine wpAnyH_done (by kernel_rfl) ?_ _
            have k0 : w9.cell? ⟨G, 0, none⟩ = some (.int .i64 (x.ren (renF kk)).op) := (cell_of_row _ _ _ _ _ _ hbk9).trans rfl
            have k1 : w9.cell? ⟨G, 1, none⟩ = some (.int .i64 (x.ren (renF kk)).a) := (cell_of_row _ _ _ _ _ _ hbk9).trans rfl
            have k2 : w9.cell? ⟨G, 2, none⟩ = some (.int .i64 (x.ren (renF kk)).b) := (cell_of_row _ _ _ _ _ _ hbk9).trans rfl
            have k3 : w9.cell? ⟨G, 3, none⟩ = some (.int .i64 (x.ren (renF kk)).n) := (cell_of_row _ _ _ _ _ _ hbk9).trans rfl
            have k4 : w9.cell? ⟨G, 4, none⟩ = some (.int .u64 (x.ren (renF kk)).imm) := (cell_of_row _ _ _ _ _ _ hbk9).trans rfl
            have HB9 := Lib.hid hS9
            have hsz9 := hS9.size
            have HX2 : Hid ((ps0.take (k + 1)).map (B.Ins.ren (renF kk)) = (ps0.take k).map (B.Ins.ren (renF kk)) ++ [x.ren (renF kk)]) := by rw [take_snoc' _ _ _ HX.out, List.map_append]; rfl
            clear hbk9 hb9 hS9 hbk hSn
            generalize x.ren (renF kk) = y at *
            go_wp2_with (at_builtin; refine app_ins rfl _ _ rfl w3.heap.size rfl (HO.out.kept HB9.out) rfl (by omega) (by omega) ?_; intro ao' cp' w10 hown10 hb10 hs10)
            go_roundw
            case rel => exact ⟨k + 1, ao', cp', by omega, by go_num, rfl, by rw [HX2.out]; exact hown10, (HB.out.trans (HB9.out.mono hsz)).trans hb10⟩
            case measure => simp [intOf]; omega
        · refine step_box (by rfl) (by rfl) hS1.size ?_
          intro G w6 hbk hG hb6
          refine hK.out _ _ (hS1.trans hb6) (fun hS2 => ?_)
          clear hK K
          refine wpAnyH_ready (rs := [5]) (by kernel_rfl) (by simp) ?_
          refine AllReadyH.cons rfl (fun K hK => ?_) AllReadyH.nil
          go_simp
          refine (HPK.out _).mono ?_
          rintro e w4 ⟨rfl, rfl⟩
          refine hK.out _ _ hS2 (fun hS3 => ?_)
          clear hK K
          refine wpAnyH_ready (rs := [6]) (by kernel_rfl) (by simp) ?_
          refine AllReadyH.cons rfl (fun K hK => ?_) AllReadyH.nil
          go_simp
          refine (named_vals x kk HRX.out kk0 kk1 _).mono ?_
          rintro e w5 ⟨rfl, hb5⟩
          replace hbk := (hb5.block G (lt_of_block hbk)).trans hbk
          refine hK.out _ _ (hS3.trans (hb5.mono hS3.size)) (fun hSn => ?_)
          clear hK K
          refine wpAnyH_ready (rs := [8]) (by kernel_rfl) (by simp) ?_
          refine AllReadyH.cons rfl (fun K hK => ?_) AllReadyH.nil
          refine step_ins (by rfl) _ _ (by rfl) (G := G) (base := wr.heap.size) (by rfl) (by rfl) hbk (by omega) (by simp [Value.oneCell']) ?_
          intro w9 hbk9 hb9
          refine hK.out _ _ (hSn.trans hb9) (fun hS9 => ?_)
          clear hK K
          refine wpAnyH_done (by kernel_rfl) ?_ _
          have k0 : w9.cell? ⟨G, 0, none⟩ = some (.int .i64 (x.ren (renF kk)).op) := (cell_of_row _ _ _ _ _ _ hbk9).trans rfl
          have k1 : w9.cell? ⟨G, 1, none⟩ = some (.int .i64 (x.ren (renF kk)).a) := (cell_of_row _ _ _ _ _ _ hbk9).trans rfl
          have k2 : w9.cell? ⟨G, 2, none⟩ = some (.int .i64 (x.ren (renF kk)).b) := (cell_of_row _ _ _ _ _ _ hbk9).trans rfl
          have k3 : w9.cell? ⟨G, 3, none⟩ = some (.int .i64 (x.ren (renF kk)).n) := (cell_of_row _ _ _ _ _ _ hbk9).trans rfl
          have k4 : w9.cell? ⟨G, 4, none⟩ = some (.int .u64 (x.ren (renF kk)).imm) := (cell_of_row _ _ _ _ _ _ hbk9).trans rfl
          have HB9 := Lib.hid hS9
          have hsz9 := hS9.size
          have HX2 : Hid ((ps0.take (k + 1)).map (B.Ins.ren (renF kk)) = (ps0.take k).map (B.Ins.ren (renF kk)) ++ [x.ren (renF kk)]) := by rw [take_snoc' _ _ _ HX.out, List.map_append]; rfl
          clear hbk9 hb9 hS9 hbk hSn
          generalize x.ren (renF kk) = y at *
          go_wp2_with (at_builtin; refine app_ins rfl _ _ rfl w3.heap.size rfl (HO.out.kept HB9.out) rfl (by omega) (by omega) ?_; intro ao' cp' w10 hown10 hb10 hs10)
          go_roundw
          case rel => exact ⟨k + 1, ao', cp', by omega, by go_num, rfl, by rw [HX2.out]; exact hown10, (HB.out.trans (HB9.out.mono hsz)).trans hb10⟩
          case measure => simp [intOf]; omega
      · obtain rfl : k = len0 := by omega
        have HO2 : Hid (OwnP wr w3.heap.size ao k cp (ps0.map (B.Ins.ren (renF kk)))) := by
          have := hown
          rw [List.take_of_length_le (by have := HP.out.len; omega)] at this
          exact this
        have HBr := Lib.hid (HB3.out.trans (hb.mono hs3))
        have hsr := HBr.out.size
        have HPE := Lib.hid (HREN.out HT.out)
        clear hown hb
        go_wp2_with fail
        refine (program_er ao k cp (ps0.map (B.Ins.ren (renF kk))) n1 n2 _ HO2.out.progAt (fun y hy => by obtain ⟨z, hz, rfl⟩ := List.mem_map.1 hy; obtain ⟨j, hj⟩ := List.getElem?_of_mem hz; exact ren_wf kk0 kk1 (HT.out.right j z hj)) (HR.out.tabs.below HBr.out (Nat.le_refl _)) hlw0).mono ?_
        rintro e w4 ⟨rfl, hb4⟩
        have HB4 := Lib.hid (HBr.out.trans (hb4.mono hsr))
        have hs4 := HB4.out.size
        rw [HPE.out]
        clear hb4
        have HG := Lib.hid (HR.out.err.below HB4.out (Nat.le_refl _))
        have her := HER.out
        rcases her with rfl | ⟨i, rfl⟩
        · simp only [Er.val]
          go_wp2_with fail
          go_ret
          exact ⟨rfl, HB4.out⟩
        · have h21 : mm = 21 := HMM.out.symm
          subst h21
          simp only [Er.val]
          go_wp2_with fail
          refine (place_any (.fault 21 i) HOK.out _ HG.out).mono ?_
          rintro e w5 ⟨rfl, hb5⟩
          have HB5 := Lib.hid (HB4.out.trans (hb5.mono hs4))
          have hs5 := HB5.out.size
          clear hb5
          simp only [Er.place]
          go_wp2_with fail
          refine (at_any (.fault 21 i) HOK.out 21 0 i _ (HR.out.err.below HB5.out (Nat.le_refl _))).mono ?_
          rintro e w6 ⟨rfl, hb6⟩
          rw [at_self]
          have HB6 := Lib.hid (HB5.out.trans (hb6.mono hs5))
          clear hb6
          go_wp2_with fail
          go_ret
          exact ⟨rfl, HB6.out⟩


set_option maxRecDepth 100000 in
theorem lifted (os : Os) (started : os.Started) (H : Type) (enc : TypeId × Value → H) :
    ReturnsInHanded {} Tryz.checked os 11 .any (fun w args => (Rows.verifyNamedSpec.pre enc Tryz.prog Tryz.f11 Rows.verifyNamedRow.domain false w args ∧ laidMetH Tryz.prog laid2 w) ∧ sizedMet enc Tryz.prog Tryz.f11 (OpenSpec.ofChange Rows.verifyNamedSpec) false w args)
      (Rows.verifyNamedSpec.post enc Tryz.prog Tryz.f11 false true false false) := by
  refine returnsInHanded_of_change_and (C := Tryz.checked) (X := fun w _ => laidMetH Tryz.prog laid2 w) (fun _ _ _ hh h => h.of_heap hh) own started (by kernel_rfl) Tryz.func11
    (ChangeSpec.witness_shaped (enc := enc) (C := Tryz.checked) (os := os) (X := fun w _ => laidMetH Tryz.prog laid2 w) false (World.doorLaid Tryz.prog 93 os) #[.slice none 0 0, .int .i64 0, .int .i64 0, .int .i64 0] 8 rfl (World.shaped_of_RefB (by kernel_rfl) (by kernel_rfl)) (by kernel_rfl) (by kernel_rfl) (by kernel_rfl) (door_met2 os _)) ?_
  intro W base args ds gs before hval0 hW hcnd hsz0 hL _
  have hval : ∀ (j : Nat) t v, Tryz.f11.params[j]? = some t → args[j]? = some v → Value.okWide Tryz.prog W .any base t v := hval0
  have hsz : (DataW.weightsEach Tryz.prog (Tryz.f11.params.toList ++ Rows.verifyNamedSpec.plain.varTypes Tryz.prog) (ds ++ gs)).all (· ≤ reachBytes) = true := hsz0
  have hW' := hW
  obtain ⟨p, q, hA0, hV, rfl, hfz, hnd⟩ := hW
  have hA : DataW.TrodAll enc Tryz.prog W 0 (fun _ => true) true Tryz.f11.params.toList args.toList ds p := hA0
  rw [Tryz.params11] at hA hval hsz
  have hA1 := hA
  obtain ⟨v0, vs0, d0, ds0, p0, q0, hargs, rfl, rfl, h0, r0⟩ := trodAll_cons hA
  obtain ⟨v1, vs1, d1, ds1, p1, q1, rfl, rfl, rfl, h1, r1⟩ := trodAll_cons r0
  obtain ⟨v2, vs2, d2, ds2, p2, q2, rfl, rfl, rfl, h2, r2⟩ := trodAll_cons r1
  obtain ⟨v3, vs3, d3, ds3, p3, q3, rfl, rfl, rfl, h3, r3⟩ := trodAll_cons r2
  obtain ⟨rfl, rfl, rfl⟩ := trodAll_nil r3
  obtain rfl : args = #[v0, v1, v2, v3] := by cases args; simp_all
  obtain ⟨rfl, rfl⟩ := trodVars_none hV
  obtain ⟨a0, len0, cap0, rfl⟩ := okWide_slice Tryz.underlying22 (hval 0 22 v0 rfl rfl)
  obtain ⟨fuel0, hf0⟩ := h0
  have hn0 := open_nil hf0
  obtain ⟨ps0, hp0, hwf0, hreach0⟩ := open_prog hf0
  have hr0 := hreach0 _ _ 0 hsz rfl rfl
  obtain ⟨n1, rfl, rfl, rfl, wf1⟩ := open_int Tryz.underlying3 (hval 1 3 v1 rfl rfl) h1
  obtain ⟨n2, rfl, rfl, rfl, wf2⟩ := open_int Tryz.underlying3 (hval 2 3 v2 rfl rfl) h2
  obtain ⟨n3, rfl, rfl, rfl, wf3⟩ := open_int Tryz.underlying3 (hval 3 3 v3 rfl rfl) h3
  have lt0 := trodAll_lt _ _ _ _ hA1
  clear hA0 hval0 hsz0
  refine (law a0 len0 cap0 ps0 n1 n2 n3 W hp0 hwf0 hr0 hn0 (ready_laid hL) (wf_i64_in wf1) (wf_i64_in wf2) (wf_i64_in wf3)).mono fun e W' ⟨he, bel⟩ => ?_
  subst he
  exact ⟨_, rfl, _, _, _, [], _, [], hW', trodAll_mk1 (shut_bool Tryz.underlying4 _), below_trodAll laidOut bel _ _ _ _ (by kernel_rfl) hA1 lt0, rfl, bel.frame _, fun h => by cases h⟩

theorem said : Rows.VerifyNamedSaid :=
  OpenClaim.holds_of_wide 11 Tryz.f11 rfl rfl rfl rfl rfl rfl rfl ⟨rfl, rfl, rfl, rfl, rfl⟩ rfl rfl rfl rfl rfl found Tryz.func11 joined instanced wrapped
    (fun os started H enc _ => lifted os started H enc)

theorem plain (f : FuncId) (fn : Func) (hf : Tryz.pinned.checked.prog.funcNamed "busbar/busbarlaw13.VerifyNamed" = some f) (hfn : Tryz.pinned.checked.prog.funcs[f]? = some fn) :
    true = Tryz.pinned.checked.prog.looks [] ∧ ∀ (j : Nat) t, fn.params[j]? = some t → Tryz.pinned.checked.prog.wantsStandIn t = false := by
  obtain rfl : f = 11 := Option.some.inj (found.symm.trans hf) |>.symm
  obtain rfl : fn = Tryz.f11 := (Option.some.inj (Tryz.func11.symm.trans hfn)).symm
  refine ⟨by kernel_rfl, fun j t ht => ?_⟩
  rw [Tryz.params11] at ht
  have hm : t ∈ ([22, 3, 3, 3] : List TypeId) := by simpa using Array.mem_of_getElem? ht
  have hall : (([22, 3, 3, 3] : List TypeId).all fun u => !Tryz.prog.wantsStandIn u) = true := by kernel_rfl
  exact (show Tryz.prog.wantsStandIn t = false by simpa using List.all_eq_true.1 hall t hm)

theorem card : Rows.VerifyNamedCardSaid :=
  Claim7.holds_tied_plain_at .later [] _ _ _ _ said (fun _ h => by cases h) (by kernel_rfl) (fun _ h => by cases h) verifyNamed_row_tie rfl ⟨rfl, rfl⟩ (by kernel_rfl) rfl plain (by kernel_rfl)
#print axioms card

end LawNamed
end Go.Proofs.YthafeadfpfibkaaGreatDoor
