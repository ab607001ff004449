/- 'VerifyPassed': what stands behind a skip that passes it over may be any right instruction that touches what there is: the statement holds of every input. No condition beyond the card's own: the listed variables hold what the program's text lays. -/
import Derived.Test.YthafeadfpfibkaaGreatDoorFrame
import Derived.Test.YthafeadfpfibkaaGreatDoorDoor
import Derived.Test.YthafeadfpfibkaaGreatDoorFactPassed
import Derived.Test.YthafeadfpfibkaaGreatDoorMore2
import Derived.Deep.MidRow
namespace Go.Proofs.YthafeadfpfibkaaGreatDoor
open Go.ChangeShapes Go.WideShapes Go.ChangeAt Go.RowKit Go.Proofs.YthafeadfpfibkaaGreatDoor.Code

namespace LawPassed

attribute [local go_sem ↓] Go.wp_at_zero Go.wp_at_succ

/-- an instruction that may be passed over -/
def Over (size slots : Int) (x : B.Ins) : Prop := x.right = true ∧ x.touch size slots 0 = 0

theorem over_x {x : B.Ins} {size slots : Int} (h : (progEr [x] size slots).num = 0 ∨ (progEr [x] size slots).num = 21) : Over size slots x := by
  have := progEr_num [x] size slots
  exact B.single_ok (by rcases h with h | h <;> rw [h] at this <;> omega)

theorem over_halt (size slots : Int) : Over size slots ⟨0, 0, 0, 0, 0⟩ := B.halt_ok size slots 0

theorem right_wf {x : B.Ins} (h : x.right = true) : x.Wf := by
  have hb := B.right_bounds h
  refine ⟨⟨?_, ?_⟩, ⟨?_, ?_⟩, ⟨?_, ?_⟩, ⟨?_, ?_⟩, ⟨?_, ?_⟩⟩ <;> omega

/-- the rows as they stand behind the skip -/
structure Behind (w0 w : World) (base : Nat) (ao : Option Addr) (n k cp : Nat) (size slots : Int) : Prop where
  own : ∃ qs, OwnP w base ao (k + 1) cp (⟨18, 0, 0, n, 0⟩ :: qs) ∧ qs.length = k ∧ ∀ x ∈ qs, Over size slots x
  below : Below base w0 w

theorem Behind.more {w0 w' : World} {base : Nat} {ao' : Option Addr} {n k cp' : Nat} {size slots : Int} {x : B.Ins} {qs : List B.Ins} (hb : Below base w0 w') (hown : OwnP w' base ao' (k + 1 + 1) cp' ((⟨18, 0, 0, n, 0⟩ :: qs) ++ [x])) (hl : qs.length = k) (hqs : ∀ x ∈ qs, Over size slots x) (hx : Over size slots x) : Behind w0 w' base ao' n (k + 1) cp' size slots :=
  ⟨⟨qs ++ [x], by simpa using hown, by simp [hl], fun y hy => by
    rcases List.mem_append.1 hy with h | h
    · exact hqs y h
    · simp at h; subst h; exact hx⟩, hb⟩
theorem store_halt {ops : Array Oper} {rest : List Oper} {op : Oper} {a : Act} {w : World} {Q : Exit → Act → World → Prop} (hgd : op.guard = none) (x y : Operand) (ho : op.op = .store 38 x y)
    (b base : Nat) (hx : a.eval x = .pointer (some ⟨b, 0, none⟩)) (hy : a.eval y = .agg #[.int .i64 0, .int .i64 0, .int .i64 0, .int .i64 0, .int .u64 0]) {z : B.Ins} (hi : InsAt w b 0 z) (hf : ∀ j, w.frozen? ⟨b, j, none⟩ = false) (hb : base ≤ b)
    (h : ∀ w', InsAt w' b 0 ⟨0, 0, 0, 0, 0⟩ → Below base w w' → wpList Tryz.prog ops Q rest (a.put op.dst undef) w') : wpList Tryz.prog ops Q (op :: rest) a w := by
  obtain ⟨g0, g1, g2, g3, g4⟩ := hi
  have T : w.there b 0 5 := by
    intro j hj
    refine ⟨?_, hf _⟩
    rw [Nat.zero_add]
    have : j = 0 ∨ j = 1 ∨ j = 2 ∨ j = 3 ∨ j = 4 := by omega
    rcases this with rfl | rfl | rfl | rfl | rfl
    · rw [g0]; rfl
    · rw [g1]; rfl
    · rw [g2]; rfl
    · rw [g3]; rfl
    · rw [g4]; rfl
  have hin : (Tryz.prog.info? 38).map (·.size) = some 5 := by kernel_rfl
  refine wpList_store_mid hgd 38 x y ho b 0 #[.int .i64 0, .int .i64 0, .int .i64 0, .int .i64 0, .int .u64 0] hx hy T hin (by simp [Value.oneCell']) (h _ ?_ ?_)
  · have hc := World.cell?_setCells_in b [.int .i64 0, .int .i64 0, .int .i64 0, .int .i64 0, .int .u64 0] 0 w (fun i hi => (T i hi).1)
    refine ⟨?_, ?_, ?_, ?_, ?_⟩
    · exact hc 0 (by simp)
    · exact hc 1 (by simp)
    · exact hc 2 (by simp)
    · exact hc 3 (by simp)
    · exact hc 4 (by simp)
  · exact (((((Below.refl base w).setCell (p := ⟨b, 0, none⟩) hb _).setCell (p := ⟨b, 1, none⟩) hb _).setCell (p := ⟨b, 2, none⟩) hb _).setCell (p := ⟨b, 3, none⟩) hb _).setCell (p := ⟨b, 4, none⟩) hb _
set_option maxRecDepth 100000 in
set_option maxHeartbeats 3200000 in
theorem law (a0 : Option Addr) (len0 cap0 : Nat) (ps0 : List B.Ins) (n1 : Int) (n2 : Int) (a3 : Option Addr) (len3 cap3 : Nat) (ps3 : List B.Ins) (w : World) (hp0 : ProgAt w a0 len0 ps0) (hwf0 : ∀ y ∈ ps0, y.Wf) (hl0 : len0 * 40 ≤ 140737488351232) (hn0 : a0 = none → cap0 = 0) (hp3 : ProgAt w a3 len3 ps3) (hwf3 : ∀ y ∈ ps3, y.Wf) (hl3 : len3 * 40 ≤ 140737488351232) (hn3 : a3 = none → cap3 = 0) (hR : Ready w) (hi1 : B.In64 n1) (hi2 : B.In64 n2) :
    Calls Tryz.prog 12 #[.slice a0 len0 cap0, .int .i64 n1, .int .i64 n2, .slice a3 len3 cap3] w (BoolOut true w) := by
  have _U0 := Lib.hid hn3
  have _U1 := Lib.hid hi1
  have _U2 := Lib.hid hi2
  have HP := Lib.hid hp0
  have HWF := Lib.hid hwf0
  have HP3 := Lib.hid hp3
  have HWF3 := Lib.hid hwf3
  have HR := Lib.hid hR
  have HN0 := Lib.hid hn0
  have hlw0 : len0 ≤ 9223372036854775807 := by omega
  clear hp0 hwf0 hp3 hwf3 hR hi1 hi2 hn0 hn3
  go_enter Tryz.func12, Tryz.ntmps12
  go_wp2_with fail
  refine (works_any _ HR.out).mono ?_
  rintro e w1 ⟨rfl, hb1⟩
  have HB1 := Lib.hid hb1
  have hs1 := hb1.size
  clear hb1
  by_cases hk0 : 2000 < len0
  · go_wp2_with fail
    go_ret
    exact ⟨rfl, HB1.out⟩
  by_cases hk3 : 2000 < len3
  · go_wp2_with fail
    go_ret
    exact ⟨rfl, HB1.out⟩
  by_cases hm : B.MayRun ps0 n1 n2
  · have HM := Lib.hid hm
    clear hm
    go_wp2_with fail
    refine (program_yes a0 len0 cap0 ps0 n1 n2 _ (HP.out.below HB1.out (Nat.le_refl _)) HWF.out (HR.out.tabs.below HB1.out (Nat.le_refl _)) hlw0 HM.out).mono ?_
    rintro e w2 ⟨rfl, hb2⟩
    have HB2 := Lib.hid (HB1.out.trans (hb2.mono hs1))
    have hs2 := HB2.out.size
    clear hb2
    go_wp2_with (at_builtin; refine app_ins rfl _ _ rfl w2.heap.size rfl (OwnP.nil _ _) rfl (by omega) (Nat.le_refl _) ?_; intro ao1 cp1 w3 hown3 hb3 hs3)
    have HOWN3 := Lib.hid hown3
    have HB3 := Lib.hid hb3
    clear hown3 hb3
    go_loopw [9, 10] (fun v i wr => ∃ (k : Nat) (ao : Option Addr) (cp : Nat), k ≤ len3 ∧ i = .int .i64 k ∧ v = .slice ao (k + 1) cp ∧ Behind w2 wr w2.heap.size ao len3 k cp n1 n2)
      (fun _ i _ => len3 - (intOf i).toNat)
    case atStart => exact ⟨0, ao1, cp1, Nat.zero_le _, rfl, rfl, ⟨[], HOWN3.out, rfl, fun x hx => by simp at hx⟩, HB3.out⟩
    case round =>
      obtain ⟨k, ao, cp, hk, rfl, rfl, ⟨qs, hown, hql, hqs⟩, hb⟩ := hrel
      have HBr := Lib.hid hb
      have HO := Lib.hid hown
      have HQL := Lib.hid hql
      have HQ := Lib.hid hqs
      have hsz := hb.size
      clear hb hown hql hqs
      by_cases hlt : k < len3
      · have hx : ps3[k]? = some (ps3[k]'(by have := HP3.out.len; omega)) := List.getElem?_eq_getElem _
        generalize ps3[k]'(by have := HP3.out.len; omega) = x at hx
        obtain ⟨b, off, rfl, hbl, hat⟩ := HP3.out.at_ k x hx
        obtain ⟨h0, h1, h2, h3, h4⟩ := (hat.below HB2.out hbl).below HBr.out (by omega)
        have HWX := Lib.hid (HWF3.out x (List.mem_of_getElem? hx))
        clear hx hat
        have HX1 := Lib.hid (two_at x wr)
        have HI := Lib.hid (insAt_new x wr)
        go_wp2_with fail
        refine (program_er _ _ _ [x] n1 n2 _ HX1.out (fun y hy => by simp at hy; subst hy; exact HWX.out) (((HR.out.tabs.below (HB2.out.trans (HBr.out.mono hs2)) (Nat.le_refl _)).alloc _).alloc _) (by omega)).mono ?_
        rintro e w4 ⟨rfl, hb4⟩
        have hs4 := hb4.size
        have HBX4 := Lib.hid (((Below.refl (wr.heap.size + 1) (wr.alloc (.cells #[.int .i64 x.op, .int .i64 x.a, .int .i64 x.b, .int .i64 x.n, .int .u64 x.imm] 38))).alloc (by simp) (.cells #[.int .i64 x.op, .int .i64 x.a, .int .i64 x.b, .int .i64 x.n, .int .u64 x.imm] 38)).trans (hb4.mono (by simp)))
        have hI4 := HI.out.below HBX4.out (by omega)
        have HI4 := Lib.hid hI4
        have HB4 := Lib.hid (((Below.refl wr.heap.size wr).alloc (Nat.le_refl _) (.cells #[.int .i64 x.op, .int .i64 x.a, .int .i64 x.b, .int .i64 x.n, .int .u64 x.imm] 38)).alloc (by simp) (.cells #[.int .i64 x.op, .int .i64 x.a, .int .i64 x.b, .int .i64 x.n, .int .u64 x.imm] 38) |>.trans (hb4.mono (by simp; omega)))
        have hlt4 : wr.heap.size < w4.heap.size := by simp at hs4; omega
        have HOV := Lib.hid (over_x (x := x) (size := n1) (slots := n2))
        have hok := progEr_ok [x] n1 n2
        clear hb4 hI4 h0 h1 h2 h3 h4
        generalize progEr [x] n1 n2 = er at *
        have HOK := Lib.hid hok
        clear hok
        go_wp2_with fail
        refine (num_any er HOK.out _).mono ?_
        rintro e w5 ⟨rfl, hb5⟩
        have HB5 := Lib.hid (HB4.out.trans (hb5.mono (by omega)))
        have HI5 := Lib.hid (HI4.out.below hb5 hlt4)
        have HBX5 := Lib.hid (HBX4.out.trans (hb5.mono hlt4))
        have hs5 := hb5.size
        clear hb5
        by_cases hz : er.num = 0
        · have hov := HOV.out (.inl hz)
          have HV := Lib.hid hov
          rw [hz]
          obtain ⟨g0, g1, g2, g3, g4⟩ := HI5.out
          clear hov hz
          go_wp2_with (at_builtin; refine app_ins rfl _ _ rfl w2.heap.size rfl (HO.out.kept HB5.out) rfl (by omega) (by omega) ?_; intro ao' cp' w6 hown6 hb6 hs6)
          go_roundw
          case rel => exact ⟨k + 1, ao', cp', by omega, by go_num, rfl, Behind.more ((HBr.out.trans (HB5.out.mono hsz)).trans hb6) hown6 HQL.out HQ.out HV.out⟩
          case measure => simp [intOf]; omega
        · have hpos : 0 < er.num := by omega
          clear hz
          go_wp2_with fail
          refine (num_any er HOK.out _).mono ?_
          rintro e w6 ⟨rfl, hb6⟩
          have HB6 := Lib.hid (HB5.out.trans (hb6.mono (by omega)))
          have HI6 := Lib.hid (HI5.out.below hb6 (by omega))
          obtain ⟨g0, g1, g2, g3, g4⟩ := HI6.out
          have hs6 := hb6.size
          have HBX6 := Lib.hid (HBX5.out.trans (hb6.mono (by omega)))
          have hlt6 : wr.heap.size < w6.heap.size := by omega
          clear hb6
          by_cases h21 : er.num = 21
          · have hov := HOV.out (.inr h21)
            have HV := Lib.hid hov
            rw [h21]
            clear hov h21
            go_wp2_with (at_builtin; refine app_ins rfl _ _ rfl w2.heap.size rfl (HO.out.kept HB6.out) rfl (by omega) (by omega) ?_; intro ao' cp' w7 hown7 hb7 hs7)
            go_roundw
            case rel => exact ⟨k + 1, ao', cp', by omega, by go_num, rfl, Behind.more ((HBr.out.trans (HB6.out.mono hsz)).trans hb7) hown7 HQL.out HQ.out HV.out⟩
            case measure => simp [intOf]; omega
          · have hne : ((er.num : Int) != 21) = true := by simp; omega
            have hne' : ((er.num : Int) == 21) = false := by simp; omega
            have hfr : ∀ j, w6.frozen? ⟨wr.heap.size, j, none⟩ = false := res_frozen HBX6.out (by omega)
            have HFR := Lib.hid hfr
            have hsz6 := HB6.out.size
            clear hfr
            go_wp2_with (first | (refine store_halt (by rfl) _ _ (by rfl) wr.heap.size wr.heap.size (by rfl) (by rfl) HI6.out HFR.out (Nat.le_refl _) ?_; intro w7 hI7 hb7; clear g0 g1 g2 g3 g4; obtain ⟨g0, g1, g2, g3, g4⟩ := hI7; have HB7 := Lib.hid (HB6.out.trans hb7); have hs7 := HB7.out.size; clear hb7) | (at_builtin; refine app_ins rfl _ _ rfl w2.heap.size rfl (HO.out.kept HB7.out) rfl (by omega) (by omega) ?_; intro ao' cp' w8 hown8 hb8 hs8))
            go_roundw
            case rel => exact ⟨k + 1, ao', cp', by omega, by go_num, rfl, Behind.more ((HBr.out.trans (HB7.out.mono hsz)).trans hb8) hown8 HQL.out HQ.out (over_halt n1 n2)⟩
            case measure => simp [intOf]; omega
      · obtain rfl : k = len3 := by omega
        have HPr := Lib.hid ((HP.out.below HB2.out (Nat.le_refl _)).below HBr.out (Nat.le_refl _))
        have HM2 := Lib.hid (HM.out.passed HQ.out (by have := HP.out.len; have := HQL.out; omega))
        go_wp2_with (at_builtin; refine app_more rfl _ _ rfl w2.heap.size rfl HO.out rfl HPr.out HN0.out (by omega) hsz ?_; intro ao' cp' w4 hown4 hb4 hs4)
        have HB4 := Lib.hid (HB2.out.trans ((HBr.out.trans hb4).mono hs2))
        have hs4' := HB4.out.size
        have hwf4 : ∀ y ∈ (⟨18, 0, 0, (k : Int), 0⟩ :: qs) ++ ps0, y.Wf := by
          intro y hy
          rcases List.mem_append.1 hy with h | h
          · rcases List.mem_cons.1 h with h | h
            · subst h; refine ⟨?_, ?_, ?_, ?_, ?_⟩ <;> (simp only [B.In64, B.InU64]; omega)
            · exact right_wf (HQ.out y h).1
          · exact HWF.out y h
        have hM3 : B.MayRun ((⟨18, 0, 0, (k : Int), 0⟩ :: qs) ++ ps0) n1 n2 := by have := HM2.out; rw [HQL.out] at this; exact this
        refine (program_yes ao' (k + 1 + len0) cp' _ n1 n2 _ hown4.progAt hwf4 (HR.out.tabs.below HB4.out (Nat.le_refl _)) (by omega) hM3).mono ?_
        rintro e w5 ⟨rfl, hb5⟩
        have HB5 := Lib.hid (HB4.out.trans (hb5.mono hs4'))
        clear hb5 hown4 hb4 hwf4 hM3
        go_wp2_with fail
        go_ret
        exact ⟨rfl, HB5.out⟩
  · have HM := Lib.hid hm
    clear hm
    go_wp2_with fail
    refine (program_no a0 len0 cap0 ps0 n1 n2 _ (HP.out.below HB1.out (Nat.le_refl _)) HWF.out (HR.out.tabs.below HB1.out (Nat.le_refl _)) hlw0 HM.out).mono ?_
    rintro e w2 ⟨⟨T, v, rfl⟩, hb2⟩
    have HB2 := Lib.hid (HB1.out.trans (hb2.mono hs1))
    clear hb2
    go_wp2_with fail
    go_ret
    exact ⟨rfl, HB2.out⟩


set_option maxRecDepth 100000 in
theorem lifted (os : Os) (started : os.Started) (H : Type) (enc : TypeId × Value → H) :
    ReturnsInHanded {} Tryz.checked os 12 .any (fun w args => (Rows.verifyPassedSpec.pre enc Tryz.prog Tryz.f12 Rows.verifyPassedRow.domain false w args ∧ laidMetH Tryz.prog laid2 w) ∧ sizedMet enc Tryz.prog Tryz.f12 (OpenSpec.ofChange Rows.verifyPassedSpec) false w args)
      (Rows.verifyPassedSpec.post enc Tryz.prog Tryz.f12 false true false false) := by
  refine returnsInHanded_of_change_and (C := Tryz.checked) (X := fun w _ => laidMetH Tryz.prog laid2 w) (fun _ _ _ hh h => h.of_heap hh) own started (by kernel_rfl) Tryz.func12
    (ChangeSpec.witness_shaped (enc := enc) (C := Tryz.checked) (os := os) (X := fun w _ => laidMetH Tryz.prog laid2 w) false (World.doorLaid Tryz.prog 93 os) #[.slice none 0 0, .int .i64 0, .int .i64 0, .slice none 0 0] 8 rfl (World.shaped_of_RefB (by kernel_rfl) (by kernel_rfl)) (by kernel_rfl) (by kernel_rfl) (by kernel_rfl) (door_met2 os _)) ?_
  intro W base args ds gs before hval0 hW hcnd hsz0 hL _
  have hval : ∀ (j : Nat) t v, Tryz.f12.params[j]? = some t → args[j]? = some v → Value.okWide Tryz.prog W .any base t v := hval0
  have hsz : (DataW.weightsEach Tryz.prog (Tryz.f12.params.toList ++ Rows.verifyPassedSpec.plain.varTypes Tryz.prog) (ds ++ gs)).all (· ≤ reachBytes) = true := hsz0
  have hW' := hW
  obtain ⟨p, q, hA0, hV, rfl, hfz, hnd⟩ := hW
  have hA : DataW.TrodAll enc Tryz.prog W 0 (fun _ => true) true Tryz.f12.params.toList args.toList ds p := hA0
  rw [Tryz.params12] at hA hval hsz
  have hA1 := hA
  obtain ⟨v0, vs0, d0, ds0, p0, q0, hargs, rfl, rfl, h0, r0⟩ := trodAll_cons hA
  obtain ⟨v1, vs1, d1, ds1, p1, q1, rfl, rfl, rfl, h1, r1⟩ := trodAll_cons r0
  obtain ⟨v2, vs2, d2, ds2, p2, q2, rfl, rfl, rfl, h2, r2⟩ := trodAll_cons r1
  obtain ⟨v3, vs3, d3, ds3, p3, q3, rfl, rfl, rfl, h3, r3⟩ := trodAll_cons r2
  obtain ⟨rfl, rfl, rfl⟩ := trodAll_nil r3
  obtain rfl : args = #[v0, v1, v2, v3] := by cases args; simp_all
  obtain ⟨rfl, rfl⟩ := trodVars_none hV
  obtain ⟨a0, len0, cap0, rfl⟩ := okWide_slice Tryz.underlying22 (hval 0 22 v0 rfl rfl)
  obtain ⟨fuel0, hf0⟩ := h0
  have hn0 := open_nil hf0
  obtain ⟨ps0, hp0, hwf0, hreach0⟩ := open_prog hf0
  have hr0 := hreach0 _ _ 0 hsz rfl rfl
  obtain ⟨n1, rfl, rfl, rfl, wf1⟩ := open_int Tryz.underlying3 (hval 1 3 v1 rfl rfl) h1
  obtain ⟨n2, rfl, rfl, rfl, wf2⟩ := open_int Tryz.underlying3 (hval 2 3 v2 rfl rfl) h2
  obtain ⟨a3, len3, cap3, rfl⟩ := okWide_slice Tryz.underlying22 (hval 3 22 v3 rfl rfl)
  obtain ⟨fuel3, hf3⟩ := h3
  have hn3 := open_nil hf3
  obtain ⟨ps3, hp3, hwf3, hreach3⟩ := open_prog hf3
  have hr3 := hreach3 _ _ 3 hsz rfl rfl
  have lt0 := trodAll_lt _ _ _ _ hA1
  clear hA0 hval0 hsz0
  refine (law a0 len0 cap0 ps0 n1 n2 a3 len3 cap3 ps3 W hp0 hwf0 hr0 hn0 hp3 hwf3 hr3 hn3 (ready_laid hL) (wf_i64_in wf1) (wf_i64_in wf2)).mono fun e W' ⟨he, bel⟩ => ?_
  subst he
  exact ⟨_, rfl, _, _, _, [], _, [], hW', trodAll_mk1 (shut_bool Tryz.underlying4 _), below_trodAll laidOut bel _ _ _ _ (by kernel_rfl) hA1 lt0, rfl, bel.frame _, fun h => by cases h⟩

theorem said : Rows.VerifyPassedSaid :=
  OpenClaim.holds_of_wide 12 Tryz.f12 rfl rfl rfl rfl rfl rfl rfl ⟨rfl, rfl, rfl, rfl, rfl⟩ rfl rfl rfl rfl rfl found Tryz.func12 joined instanced wrapped
    (fun os started H enc _ => lifted os started H enc)

theorem plain (f : FuncId) (fn : Func) (hf : Tryz.pinned.checked.prog.funcNamed "busbar/busbarlaw13.VerifyPassed" = some f) (hfn : Tryz.pinned.checked.prog.funcs[f]? = some fn) :
    true = Tryz.pinned.checked.prog.looks [] ∧ ∀ (j : Nat) t, fn.params[j]? = some t → Tryz.pinned.checked.prog.wantsStandIn t = false := by
  obtain rfl : f = 12 := Option.some.inj (found.symm.trans hf) |>.symm
  obtain rfl : fn = Tryz.f12 := (Option.some.inj (Tryz.func12.symm.trans hfn)).symm
  refine ⟨by kernel_rfl, fun j t ht => ?_⟩
  rw [Tryz.params12] at ht
  have hm : t ∈ ([22, 3, 3, 22] : List TypeId) := by simpa using Array.mem_of_getElem? ht
  have hall : (([22, 3, 3, 22] : List TypeId).all fun u => !Tryz.prog.wantsStandIn u) = true := by kernel_rfl
  exact (show Tryz.prog.wantsStandIn t = false by simpa using List.all_eq_true.1 hall t hm)

theorem card : Rows.VerifyPassedCardSaid :=
  Claim7.holds_tied_plain_at .later [] _ _ _ _ said (fun _ h => by cases h) (by kernel_rfl) (fun _ h => by cases h) verifyPassed_row_tie rfl ⟨rfl, rfl⟩ (by kernel_rfl) rfl plain (by kernel_rfl)
#print axioms card

end LawPassed
end Go.Proofs.YthafeadfpfibkaaGreatDoor
