/- 'LiveIdle': nothing idle is left, and nothing more goes: the statement holds of every input. No condition beyond the card's own: the listed variables hold what the program's text lays. -/
import Derived.Test.YtdpbkchegbkefaaGreatDoorFrame
import Derived.Test.YtdpbkchegbkefaaGreatDoorDoor1
import Derived.Test.YtdpbkchegbkefaaGreatDoorFactLiveIdle
import Derived.Test.YtdpbkchegbkefaaGreatDoorLivX
import Derived.Test.YtdpbkchegbkefaaGreatDoorMore
namespace Go.Proofs.YtdpbkchegbkefaaGreatDoor
open Go.ChangeShapes Go.WideShapes Go.ChangeAt Go.RowKit Go.Proofs.YtdpbkchegbkefaaGreatDoor.Code

namespace LawLiveIdle

attribute [local go_sem ↓] Go.wp_at_zero Go.wp_at_succ

theorem writes16_any (x : B.Ins) (hr : x.right = true) (w : World) :
    Calls Tryz.prog 19 #[.agg #[.int .i64 x.op, .int .i64 x.a, .int .i64 x.b, .int .i64 x.n, .int .u64 x.imm]] w (BoolOut x.isW w) := by
  have ho := B.op_cases hr
  clear hr
  obtain ⟨o, a, c, n, m⟩ := x
  simp only at ho
  rcases ho with rfl | rfl | rfl | rfl | rfl | rfl | rfl | rfl | rfl | rfl | rfl | rfl | rfl | rfl | rfl | rfl | rfl | rfl | rfl | rfl
  all_goals go_enter Tryz.func19, Tryz.ntmps19
  all_goals go_wp2_with fail
  all_goals go_ret
  all_goals refine ⟨ret_bool ?_, (Below.refl _ _).alloc (Nat.le_refl _) _⟩
  all_goals simp [B.Ins.isW]

set_option maxRecDepth 100000 in
set_option maxHeartbeats 6400000 in
theorem reads16_any (x : B.Ins) (hr : x.right = true) (r : Nat) (w : World) :
    Calls Tryz.prog 20 #[.agg #[.int .i64 x.op, .int .i64 x.a, .int .i64 x.b, .int .i64 x.n, .int .u64 x.imm], .int .i64 (r : Int)] w (BoolOut (x.reads r) w) := by
  have ho := B.op_cases hr
  clear hr
  obtain ⟨o, a, c, n, m⟩ := x
  simp only at ho
  rcases ho with rfl | rfl | rfl | rfl | rfl | rfl | rfl | rfl | rfl | rfl | rfl | rfl | rfl | rfl | rfl | rfl | rfl | rfl | rfl | rfl
  · go_enter Tryz.func20, Tryz.ntmps20
    go_wp2_with fail
    go_ret
    refine ⟨ret_bool ?_, (Below.refl _ _).alloc (Nat.le_refl _) _⟩
    simp [B.Ins.reads]
  · go_enter Tryz.func20, Tryz.ntmps20
    go_wp2_with fail
    go_ret
    refine ⟨ret_bool ?_, (Below.refl _ _).alloc (Nat.le_refl _) _⟩
    simp [B.Ins.reads]
  · cases hc : (c == (r : Int))
    all_goals go_enter Tryz.func20, Tryz.ntmps20
    all_goals go_wp2_with fail
    all_goals go_ret
    all_goals refine ⟨ret_bool ?_, (Below.refl _ _).alloc (Nat.le_refl _) _⟩
    all_goals simp [B.Ins.reads, hc]
  · cases hc : (c == (r : Int))
    all_goals go_enter Tryz.func20, Tryz.ntmps20
    all_goals go_wp2_with fail
    all_goals go_ret
    all_goals refine ⟨ret_bool ?_, (Below.refl _ _).alloc (Nat.le_refl _) _⟩
    all_goals simp [B.Ins.reads, hc]
  · cases hc : (c == (r : Int))
    all_goals go_enter Tryz.func20, Tryz.ntmps20
    all_goals go_wp2_with fail
    all_goals go_ret
    all_goals refine ⟨ret_bool ?_, (Below.refl _ _).alloc (Nat.le_refl _) _⟩
    all_goals simp [B.Ins.reads, hc]
  · cases hc : (c == (r : Int))
    all_goals go_enter Tryz.func20, Tryz.ntmps20
    all_goals go_wp2_with fail
    all_goals go_ret
    all_goals refine ⟨ret_bool ?_, (Below.refl _ _).alloc (Nat.le_refl _) _⟩
    all_goals simp [B.Ins.reads, hc]
  · go_enter Tryz.func20, Tryz.ntmps20
    go_wp2_with fail
    go_ret
    refine ⟨ret_bool ?_, (Below.refl _ _).alloc (Nat.le_refl _) _⟩
    simp [B.Ins.reads]
  · go_enter Tryz.func20, Tryz.ntmps20
    go_wp2_with fail
    go_ret
    refine ⟨ret_bool ?_, (Below.refl _ _).alloc (Nat.le_refl _) _⟩
    simp [B.Ins.reads]
  · go_enter Tryz.func20, Tryz.ntmps20
    go_wp2_with fail
    go_ret
    refine ⟨ret_bool ?_, (Below.refl _ _).alloc (Nat.le_refl _) _⟩
    simp [B.Ins.reads]
  · go_enter Tryz.func20, Tryz.ntmps20
    go_wp2_with fail
    go_ret
    refine ⟨ret_bool ?_, (Below.refl _ _).alloc (Nat.le_refl _) _⟩
    simp [B.Ins.reads]
  · go_enter Tryz.func20, Tryz.ntmps20
    go_wp2_with fail
    go_ret
    refine ⟨ret_bool ?_, (Below.refl _ _).alloc (Nat.le_refl _) _⟩
    simp [B.Ins.reads]
  · go_enter Tryz.func20, Tryz.ntmps20
    go_wp2_with fail
    go_ret
    refine ⟨ret_bool ?_, (Below.refl _ _).alloc (Nat.le_refl _) _⟩
    simp [B.Ins.reads]
  · go_enter Tryz.func20, Tryz.ntmps20
    go_wp2_with fail
    go_ret
    refine ⟨ret_bool ?_, (Below.refl _ _).alloc (Nat.le_refl _) _⟩
    simp [B.Ins.reads]
  · go_enter Tryz.func20, Tryz.ntmps20
    go_wp2_with fail
    go_ret
    refine ⟨ret_bool ?_, (Below.refl _ _).alloc (Nat.le_refl _) _⟩
    simp [B.Ins.reads]
  · go_enter Tryz.func20, Tryz.ntmps20
    go_wp2_with fail
    go_ret
    refine ⟨ret_bool ?_, (Below.refl _ _).alloc (Nat.le_refl _) _⟩
    simp [B.Ins.reads]
  · go_enter Tryz.func20, Tryz.ntmps20
    go_wp2_with fail
    go_ret
    refine ⟨ret_bool ?_, (Below.refl _ _).alloc (Nat.le_refl _) _⟩
    simp [B.Ins.reads]
  · go_enter Tryz.func20, Tryz.ntmps20
    go_wp2_with fail
    go_ret
    refine ⟨ret_bool ?_, (Below.refl _ _).alloc (Nat.le_refl _) _⟩
    simp [B.Ins.reads]
  · go_enter Tryz.func20, Tryz.ntmps20
    go_wp2_with fail
    go_ret
    refine ⟨ret_bool ?_, (Below.refl _ _).alloc (Nat.le_refl _) _⟩
    simp [B.Ins.reads]
  · go_enter Tryz.func20, Tryz.ntmps20
    go_wp2_with fail
    go_ret
    refine ⟨ret_bool ?_, (Below.refl _ _).alloc (Nat.le_refl _) _⟩
    simp [B.Ins.reads]
  · go_enter Tryz.func20, Tryz.ntmps20
    go_wp2_with fail
    go_ret
    refine ⟨ret_bool ?_, (Below.refl _ _).alloc (Nat.le_refl _) _⟩
    simp [B.Ins.reads]

/-- a register is read by one of the instructions up to a place -/
def rdTo (q : List B.Ins) (k r j : Nat) : Bool := (List.range j).any fun t => decide (k < t) && match q[t]? with | some y => y.reads r | none => false

theorem rdTo_start (q : List B.Ins) (k r : Nat) : rdTo q k r (k + 1) = false := by
  unfold rdTo
  rw [List.any_eq_false]
  intro t ht
  have := List.mem_range.1 ht
  simp; omega

theorem rdTo_next {q : List B.Ins} {k r j : Nat} {y : B.Ins} (hj : k < j) (hy : q[j]? = some y) : rdTo q k r (j + 1) = (rdTo q k r j || y.reads r) := by
  unfold rdTo
  rw [List.range_succ, List.any_append]
  simp [hy, hj]

theorem rdTo_yes {q : List B.Ins} {k r j : Nat} {y : B.Ins} (hj : k < j) (hy : q[j]? = some y) (hr : y.reads r = true) : rdTo q k r q.length = true := by
  unfold rdTo
  rw [List.any_eq_true]
  exact ⟨j, List.mem_range.2 (List.getElem?_eq_some_iff.1 hy).1, by simp [hy, hj, hr]⟩
set_option maxRecDepth 100000 in
set_option maxHeartbeats 3200000 in
theorem law (a0 : Option Addr) (len0 cap0 : Nat) (ps0 : List B.Ins) (n1 : Int) (n2 : Int) (w : World) (hp0 : ProgAt w a0 len0 ps0) (hwf0 : ∀ y ∈ ps0, y.Wf) (hl0 : len0 * 40 ≤ 140737488351232) (hn0 : a0 = none → cap0 = 0) (hR : Tabs w) (hi1 : B.In64 n1) (hi2 : B.In64 n2) :
    Calls Tryz.prog 3 #[.slice a0 len0 cap0, .int .i64 n1, .int .i64 n2] w (BoolOut true w) := by
  have _U0 := Lib.hid hn0
  have _U1 := Lib.hid hi1
  have _U2 := Lib.hid hi2
  have HP := Lib.hid hp0
  have HWF := Lib.hid hwf0
  have HR := Lib.hid hR
  have hlw : len0 ≤ 3518437208780 := by omega
  clear hp0 hwf0 hn0 hR hi1 hi2 hl0
  by_cases hm : B.MayRun ps0 n1 n2
  · have HM := Lib.hid hm
    have hlen : len0 ≤ 16384 := by rw [HP.out.len]; exact hm.len
    have HMQ := Lib.hid hm.drop
    have HDD := Lib.hid (B.drop_drop hm)
    have HALL : Hid (∀ k, k < (B.drop ps0).length → B.stay (B.drop ps0) k = true) := fun k hk => B.drop_all hm hk
    clear hm
    go_enter Tryz.func3, Tryz.ntmps3
    go_wp2_with fail
    refine (drop_yes a0 len0 cap0 ps0 n1 n2 _ HP.out HWF.out HR.out HM.out).mono ?_
    rintro e w1 ⟨ao, cp, rfl, hown, hb1⟩
    generalize B.drop ps0 = q at *
    have HO := Lib.hid hown
    have HB1 := Lib.hid hb1
    have hs1 := hb1.size
    have hql : q.length ≤ 16384 := HMQ.out.len
    have HQWF : Hid (∀ y ∈ q, y.Wf) := fun y hy => wf_right (HMQ.out.ok.mem y hy)
    clear hown hb1
    go_wp2_with fail
    refine (works16_any _ (HR.out.below HB1.out (Nat.le_refl _))).mono ?_
    rintro e w2 ⟨rfl, hb2⟩
    have HB2 := Lib.hid (HB1.out.trans (hb2.mono hs1))
    have HP2 : Hid (ProgAt w2 ao q.length q) := HO.out.progAt.below hb2 (Nat.le_refl _)
    have hs2 := HB2.out.size
    clear hb2
    by_cases hbig : 2000 < len0
    · have q1 : decide ((2000 : Int) < (len0 : Int)) = true := by simp; omega
      go_wp2_with fail
      refine (works16_any _ (HR.out.below HB2.out (Nat.le_refl _))).mono ?_
      rintro e w3 ⟨rfl, hb3⟩
      have HB3 := Lib.hid (HB2.out.trans (hb3.mono hs2))
      clear hb3
      go_wp2_with fail
      go_ret
      exact ⟨rfl, HB3.out⟩
    · have q1 : decide ((2000 : Int) < (len0 : Int)) = false := by simp; omega
      go_wp2_with fail
      refine (drop_yes ao q.length cp q n1 n2 _ HP2.out HQWF.out (HR.out.below HB2.out (Nat.le_refl _)) HMQ.out).mono ?_
      rintro e w3 ⟨ao3, cp3, rfl, hown3, hb3⟩
      rw [HDD.out] at hown3 ⊢
      have HO3 := Lib.hid hown3
      have HB3 := Lib.hid (HB2.out.trans (hb3.mono hs2))
      have HP3 : Hid (ProgAt w3 ao q.length q) := HP2.out.below hb3 (Nat.le_refl _)
      have hs3 := HB3.out.size
      clear hown3 hb3 q1
      go_wp2_with fail
      refine (sameInstrs_yes ao3 ao q.length cp3 q.length cp q _ HO3.out.progAt HP3.out (by omega)).mono ?_
      rintro e w4 ⟨rfl, hb4⟩
      have HB4 := Lib.hid (HB3.out.trans (hb4.mono hs3))
      have HP4 : Hid (ProgAt w4 ao q.length q) := HP3.out.below hb4 (Nat.le_refl _)
      have hs4 := HB4.out.size
      clear hb4
      go_wp2_with fail
      refine (program_yes ao q.length cp q n1 n2 _ HP4.out HQWF.out (HR.out.below HB4.out (Nat.le_refl _)) (by omega) HMQ.out).mono ?_
      rintro e w5 ⟨rfl, hb5⟩
      have HB5 := Lib.hid (HB4.out.trans (hb5.mono hs4))
      have HP5 : Hid (ProgAt w5 ao q.length q) := HP4.out.below hb5 (Nat.le_refl _)
      have hs5 := HB5.out.size
      clear hb5
      go_wp2_with fail
      go_loopw [11] (fun i wr => ∃ k : Nat, k ≤ q.length ∧ i = .int .i64 k ∧ Below w5.heap.size w5 wr) (fun i _ => q.length - (intOf i).toNat)
      case atStart => exact ⟨0, Nat.zero_le _, rfl, Below.refl _ _⟩
      case round =>
        obtain ⟨k, hk, rfl, hb⟩ := hrel
        have HB := Lib.hid hb
        have hszr := hb.size
        clear hb
        by_cases hlt : k < q.length
        · have hx : q[k]? = some q[k] := List.getElem?_eq_getElem _
          generalize q[k] = x at hx
          have hst := HALL.out k hlt
          have hr := HMQ.out.ok.right k x hx
          have hbx := B.right_bounds hr
          obtain ⟨A, hA⟩ : ∃ A : Nat, x.a = A := ⟨x.a.toNat, by omega⟩
          have HFIN : Hid ((!x.isW || rdTo q k A q.length) = true) := by
            show _ = _
            cases hw : x.isW with
            | false => rfl
            | true =>
              obtain ⟨j, y, h1, h2, h3⟩ := B.all_ahead hx hst hw
              rw [hA] at h3
              have := rdTo_yes h1 h2 (by simpa using h3)
              rw [this]; rfl
          have HSK : Hid (x.skips = true → 1 ≤ x.n) := fun h => B.all_skips hx hst h
          have HX := Lib.hid hx
          have HRT := Lib.hid hr
          have HAA := Lib.hid hA
          obtain ⟨b, off, rfl, hbl, hat⟩ := HP5.out.at_ k x hx
          obtain ⟨h0, h1, h2, h3, h4⟩ := hat.below HB.out hbl
          clear hx hst hr hbx hat hbl hA
          go_wp2_with fail
          refine (writes16_any x HRT.out _).mono ?_
          rintro e w6 ⟨rfl, hb6⟩
          have HB6 := Lib.hid (HB.out.trans (hb6.mono hszr))
          clear hb6 h0 h1 h2 h3 h4 HB hszr
          go_wp2_with fail
          obtain ⟨wo, hwo⟩ : ∃ wo : World, wo = wr := ⟨_, rfl⟩
          subst hwo
          go_loopw [12, 13] (fun v j wr => ∃ J : Nat, k + 1 ≤ J ∧ J ≤ q.length ∧ j = .int .i64 J ∧ v = .bool (!x.isW || rdTo q k A J) ∧ Below w5.heap.size w5 wr) (fun _ j _ => q.length - (intOf j).toNat)
          case atStart => exact ⟨k + 1, Nat.le_refl _, by omega, by go_num, by rw [rdTo_start]; simp, HB6.out⟩
          case round =>
            obtain ⟨J, hJ1, hJ2, rfl, rfl, hbJ⟩ := hrel
            have HBJ := Lib.hid hbJ
            have hszJ := hbJ.size
            clear HB6
            obtain ⟨b2, off2, he2, hbl2, hat2⟩ := HP5.out.at_ k x HX.out
            simp only [Option.some.injEq, Addr.mk.injEq] at he2
            obtain ⟨rfl, rfl, _⟩ := he2
            obtain ⟨x0, x1, x2, x3, x4⟩ := hat2.below hbJ hbl2
            rw [HAA.out] at x1
            by_cases hltJ : J < q.length
            · have hy : q[J]? = some q[J] := List.getElem?_eq_getElem _
              generalize q[J] = y at hy
              have HNX := Lib.hid (rdTo_next (r := A) (show k < J by omega) hy)
              obtain ⟨b3, off3, he3, hbl3, hat3⟩ := HP5.out.at_ J y hy
              simp only [Option.some.injEq, Addr.mk.injEq] at he3
              obtain ⟨rfl, rfl, _⟩ := he3
              obtain ⟨y0, y1, y2, y3, y4⟩ := hat3.below hbJ hbl3
              have HRY := Lib.hid (HMQ.out.ok.right J y hy)
              have j0 : (0 : Int) ≤ (J : Int) := by omega
              have j1 : (J : Int) < (q.length : Int) := by omega
              have k0 : (0 : Int) ≤ (k : Int) := by omega
              have k1 : (k : Int) < (q.length : Int) := by omega
              have hj2 : IntKind.i64.wrap ((J : Int) + 1) = (J : Int) + 1 := IntWalk.i64_in _ (by omega)
              clear hy hat2 hat3 hbl2 hbl3 hbJ
              cases hbb : (!x.isW || rdTo q k A J) with
              | true =>
                have HBB := Lib.hid hbb
                clear hbb
                go_wp2_with fail
                go_quiet (fail)
                go_wp2_with fail
                go_roundw
                case rel =>
                  refine ⟨J + 1, by omega, by omega, by go_num, ?_, belowN HBJ.out _⟩
                  rw [HNX.out, ← Bool.or_assoc, HBB.out]; rfl
                case measure => simp [intOf]; omega
              | false =>
                have HBB := Lib.hid hbb
                clear hbb
                go_wp2_with fail
                go_still_tail 11, (by kernel_rfl)
                go_wp2_with fail
                refine (reads16_any y HRY.out A _).mono ?_
                rintro e w7 ⟨rfl, hb7⟩
                have HB7 := Lib.hid (HBJ.out.drew.trans (hb7.mono HBJ.out.drew.size))
                clear hb7
                go_wp2_with fail
                go_roundw
                case rel =>
                  refine ⟨J + 1, by omega, by omega, by go_num, ?_, HB7.out⟩
                  rw [HNX.out, ← Bool.or_assoc, HBB.out]; rfl
                case measure => simp [intOf]; omega
            · obtain rfl : J = q.length := by omega
              rw [HFIN.out]
              have k0 : (0 : Int) ≤ (k : Int) := by omega
              clear hat2 hbl2 hbJ
              by_cases e18 : x.op = 18
              · have q1 : (x.op == 18) = true := by simpa using e18
                have hn1 : decide (x.n < 1) = false := by have := HSK.out (by unfold B.Ins.skips; simp [e18]); simp; omega
                clear e18
                go_wp2_with fail
                go_roundw
                case rel => exact ⟨k + 1, by omega, by go_num, HBJ.out⟩
                case measure => simp [intOf]; omega
              · by_cases e19 : x.op = 19
                · have q1 : (x.op == 18) = false := by simpa using e18
                  have q2 : (x.op == 19) = true := by simpa using e19
                  have hn1 : decide (x.n < 1) = false := by have := HSK.out (by unfold B.Ins.skips; simp [e19]); simp; omega
                  clear e18 e19
                  go_wp2_with fail
                  go_roundw
                  case rel => exact ⟨k + 1, by omega, by go_num, HBJ.out⟩
                  case measure => simp [intOf]; omega
                · have q1 : (x.op == 18) = false := by simpa using e18
                  have q2 : (x.op == 19) = false := by simpa using e19
                  clear e18 e19
                  go_wp2_with fail
                  go_roundw
                  case rel => exact ⟨k + 1, by omega, by go_num, HBJ.out⟩
                  case measure => simp [intOf]; omega
        · obtain rfl : k = q.length := by omega
          have HBE := Lib.hid (HB5.out.trans (HB.out.mono hs5))
          by_cases h00 : q.length = 0
          · have q0 : ((q.length : Int) == 0) = true := by simp [h00]
            clear h00
            go_wp2_with fail
            go_ret
            exact ⟨rfl, HBE.out⟩
          · obtain ⟨m, hqm⟩ : ∃ m, q.length = m + 1 := ⟨q.length - 1, by omega⟩
            have hx : q[m]? = some (q[m]'(by omega)) := List.getElem?_eq_getElem _
            generalize q[m]'(by omega) = x at hx
            have hlast := B.all_last HMQ.out (x := x) (by rw [hqm]; exact hx) (by rw [hqm]; exact HALL.out m (by omega))
            obtain ⟨b, off, rfl, hbl, hat⟩ := HP5.out.at_ m x hx
            obtain ⟨h0, h1, h2, h3, h4⟩ := hat.below HB.out hbl
            have q0 : ((q.length : Int) == 0) = false := beq_eq_false_iff_ne.2 (by omega)
            have hw1 : IntKind.i64.wrap ((q.length : Int) - 1) = (m : Int) := by rw [hqm]; have := IntWalk.i64_in ((m : Int)) (by omega); rw [show (((m + 1 : Nat) : Int) - 1) = (m : Int) by omega]; exact this
            have m0 : (0 : Int) ≤ (m : Int) := by omega
            have m1 : (m : Int) < (q.length : Int) := by omega
            have HQM := Lib.hid hqm
            clear hx hat hbl h00 hqm
            have hl5 : x.op = 11 ∨ x.op = 12 ∨ x.op = 13 ∨ x.op = 16 ∨ x.op = 17 := by omega
            clear hlast
            rcases hl5 with ho | ho | ho | ho | ho
            all_goals rw [ho] at h0
            all_goals clear ho
            all_goals go_wp2_with fail
            all_goals go_ret
            all_goals exact ⟨rfl, HBE.out⟩
  · have HM : Hid (¬ B.MayRun ps0 n1 n2) := hm
    obtain ⟨T, v, hv⟩ := Er.shape _ (progEr_shape hm)
    have HV := Lib.hid hv
    clear hm hv
    go_enter Tryz.func3, Tryz.ntmps3
    go_wp2_with fail
    refine (drop_no a0 len0 cap0 ps0 n1 n2 _ HP.out HWF.out HR.out (by omega) HM.out).mono ?_
    rintro e w1 ⟨rfl, hb1⟩
    rw [HV.out]
    have HB1 := Lib.hid hb1
    have hs1 := hb1.size
    clear hb1
    go_wp2_with fail
    refine (works16_any _ (HR.out.below HB1.out (Nat.le_refl _))).mono ?_
    rintro e w2 ⟨rfl, hb2⟩
    have HB2 := Lib.hid (HB1.out.trans (hb2.mono hs1))
    have hs2 := HB2.out.size
    clear hb2
    go_wp2_with fail
    refine (works16_any _ (HR.out.below HB2.out (Nat.le_refl _))).mono ?_
    rintro e w3 ⟨rfl, hb3⟩
    have HB3 := Lib.hid (HB2.out.trans (hb3.mono hs2))
    clear hb3
    go_wp2_with fail
    go_ret
    exact ⟨rfl, HB3.out⟩

set_option maxRecDepth 100000 in
theorem lifted (os : Os) (started : os.Started) (H : Type) (enc : TypeId × Value → H) :
    ReturnsInHanded {} Tryz.checked os 3 .any (fun w args => (Rows.liveIdleSpec.pre enc Tryz.prog Tryz.f3 Rows.liveIdleRow.domain false w args ∧ laidMetH Tryz.prog laid1 w) ∧ sizedMet enc Tryz.prog Tryz.f3 (OpenSpec.ofChange Rows.liveIdleSpec) false w args)
      (Rows.liveIdleSpec.post enc Tryz.prog Tryz.f3 false true false false) := by
  refine returnsInHanded_of_change_and (C := Tryz.checked) (X := fun w _ => laidMetH Tryz.prog laid1 w) (fun _ _ _ hh h => h.of_heap hh) own started (by kernel_rfl) Tryz.func3
    (ChangeSpec.witness_shaped (enc := enc) (C := Tryz.checked) (os := os) (X := fun w _ => laidMetH Tryz.prog laid1 w) false (World.doorLaid Tryz.prog 93 os) #[.slice none 0 0, .int .i64 0, .int .i64 0] 8 rfl (World.shaped_of_RefB (by kernel_rfl) (by kernel_rfl)) (by kernel_rfl) (by kernel_rfl) (by kernel_rfl) (door_met1 os _)) ?_
  intro W base args ds gs before hval0 hW hcnd hsz0 hL _
  have hval : ∀ (j : Nat) t v, Tryz.f3.params[j]? = some t → args[j]? = some v → Value.okWide Tryz.prog W .any base t v := hval0
  have hsz : (DataW.weightsEach Tryz.prog (Tryz.f3.params.toList ++ Rows.liveIdleSpec.plain.varTypes Tryz.prog) (ds ++ gs)).all (· ≤ reachBytes) = true := hsz0
  have hW' := hW
  obtain ⟨p, q, hA0, hV, rfl, hfz, hnd⟩ := hW
  have hA : DataW.TrodAll enc Tryz.prog W 0 (fun _ => true) true Tryz.f3.params.toList args.toList ds p := hA0
  rw [Tryz.params3] at hA hval hsz
  have hA1 := hA
  obtain ⟨v0, vs0, d0, ds0, p0, q0, hargs, rfl, rfl, h0, r0⟩ := trodAll_cons hA
  obtain ⟨v1, vs1, d1, ds1, p1, q1, rfl, rfl, rfl, h1, r1⟩ := trodAll_cons r0
  obtain ⟨v2, vs2, d2, ds2, p2, q2, rfl, rfl, rfl, h2, r2⟩ := trodAll_cons r1
  obtain ⟨rfl, rfl, rfl⟩ := trodAll_nil r2
  obtain rfl : args = #[v0, v1, v2] := by cases args; simp_all
  obtain ⟨rfl, rfl⟩ := trodVars_none hV
  obtain ⟨a0, len0, cap0, rfl⟩ := okWide_slice Tryz.underlying22 (hval 0 22 v0 rfl rfl)
  obtain ⟨fuel0, hf0⟩ := h0
  have hn0 := open_nil hf0
  obtain ⟨ps0, hp0, hwf0, hreach0⟩ := open_prog hf0
  have hr0 := hreach0 _ _ 0 hsz rfl rfl
  obtain ⟨n1, rfl, rfl, rfl, wf1⟩ := open_int Tryz.underlying3 (hval 1 3 v1 rfl rfl) h1
  obtain ⟨n2, rfl, rfl, rfl, wf2⟩ := open_int Tryz.underlying3 (hval 2 3 v2 rfl rfl) h2
  have lt0 := trodAll_lt _ _ _ _ hA1
  clear hA0 hval0 hsz0
  refine (law a0 len0 cap0 ps0 n1 n2 W hp0 hwf0 hr0 hn0 (tabs_laid1 hL) (wf_i64_in wf1) (wf_i64_in wf2)).mono fun e W' ⟨he, bel⟩ => ?_
  subst he
  exact ⟨_, rfl, _, _, _, [], _, [], hW', trodAll_mk1 (shut_bool Tryz.underlying4 _), below_trodAll laidOut bel _ _ _ _ (by kernel_rfl) hA1 lt0, rfl, bel.frame _, fun h => by cases h⟩

theorem said : Rows.LiveIdleSaid :=
  OpenClaim.holds_of_wide 3 Tryz.f3 rfl rfl rfl rfl rfl rfl rfl ⟨rfl, rfl, rfl, rfl, rfl⟩ rfl rfl rfl rfl rfl found Tryz.func3 joined instanced wrapped
    (fun os started H enc _ => lifted os started H enc)

theorem plain (f : FuncId) (fn : Func) (hf : Tryz.pinned.checked.prog.funcNamed "busbar/busbarlaw16.LiveIdle" = some f) (hfn : Tryz.pinned.checked.prog.funcs[f]? = some fn) :
    true = Tryz.pinned.checked.prog.looks [] ∧ ∀ (j : Nat) t, fn.params[j]? = some t → Tryz.pinned.checked.prog.wantsStandIn t = false := by
  obtain rfl : f = 3 := Option.some.inj (found.symm.trans hf) |>.symm
  obtain rfl : fn = Tryz.f3 := (Option.some.inj (Tryz.func3.symm.trans hfn)).symm
  refine ⟨by kernel_rfl, fun j t ht => ?_⟩
  rw [Tryz.params3] at ht
  have hm : t ∈ ([22, 3, 3] : List TypeId) := by simpa using Array.mem_of_getElem? ht
  have hall : (([22, 3, 3] : List TypeId).all fun u => !Tryz.prog.wantsStandIn u) = true := by kernel_rfl
  exact (show Tryz.prog.wantsStandIn t = false by simpa using List.all_eq_true.1 hall t hm)

theorem card : Rows.LiveIdleCardSaid :=
  Claim7.holds_tied_plain_at .later [] _ _ _ _ said (fun _ h => by cases h) (by kernel_rfl) (fun _ h => by cases h) liveIdle_row_tie rfl ⟨rfl, rfl⟩ (by kernel_rfl) rfl plain (by kernel_rfl)
#print axioms card

end LawLiveIdle
end Go.Proofs.YtdpbkchegbkefaaGreatDoor
