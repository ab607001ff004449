/- 'LiveAhead': what is written ahead and never read changes nothing: the statement holds of every input. No condition beyond the card's own: the listed variables hold what the program's text lays. -/
import Derived.Test.YtdpbkchegbkefaaGreatDoorFrame
import Derived.Test.YtdpbkchegbkefaaGreatDoorDoor1
import Derived.Test.YtdpbkchegbkefaaGreatDoorFactLiveAhead
import Derived.Test.YtdpbkchegbkefaaGreatDoorLivX
import Derived.Test.YtdpbkchegbkefaaGreatDoorOpen3
import Derived.Test.YtdpbkchegbkefaaGreatDoorMore
import Derived.Deep.Cut
import Derived.Deep.RegionHeld3
namespace Go.Proofs.YtdpbkchegbkefaaGreatDoor
open Go.ChangeShapes Go.WideShapes Go.ChangeAt Go.RowKit Go.Proofs.YtdpbkchegbkefaaGreatDoor.Code

namespace LawLiveAhead

attribute [local go_sem ↓] Go.wp_at_zero Go.wp_at_succ

/-- an instruction that writes a register alone, and reads none -/
structure LineOk (size slots : Int) (y : B.Ins) : Prop where
  right : y.right = true
  isW : y.isW = true
  reads : ∀ r, y.reads r = false
  touch : ∀ left, y.touch size slots left = 0

theorem lines_may {size slots : Int} {l : List B.Ins} (h : ∀ y ∈ l, LineOk size slots y) (hs : 0 ≤ size ∧ size ≤ 8) (hl : 0 ≤ slots ∧ slots ≤ 64) (hn : l.length ≤ 16384) : B.MayRun l size slots :=
  ⟨hs, hl, hn, ⟨fun i x hx => (h x (List.mem_of_getElem? hx)).right, fun i x hx => (h x (List.mem_of_getElem? hx)).touch _⟩, fun i x hx r hr => by rw [(h x (List.mem_of_getElem? hx)).reads r] at hr; cases hr⟩

theorem lines_idle {size slots : Int} {l : List B.Ins} (h : ∀ y ∈ l, LineOk size slots y) : B.Idle l := ⟨fun x hx => (h x hx).isW⟩

theorem const_line (size slots a m : Int) (h0 : 0 ≤ a) (h1 : a < 16) (h2 : 0 ≤ m) (h3 : m ≤ 18446744073709551615) : LineOk size slots ⟨1, a, 0, 0, m⟩ := by
  refine ⟨?_, by simp [B.Ins.isW], fun r => by simp [B.Ins.reads], fun left => by simp [B.Ins.touch]⟩
  simp [B.Ins.right, B.isOp, B.hasA, B.hiB, B.loN, B.hiN, B.hiImm]; omega

theorem in_line (size slots a : Int) (h0 : 0 ≤ a) (h1 : a < 16) (h2 : 0 < slots) (h3 : slots ≤ 64) : LineOk size slots ⟨15, a, slots - 1, 0, 0⟩ := by
  refine ⟨?_, by simp [B.Ins.isW], fun r => by simp [B.Ins.reads], fun left => ?_⟩
  · simp [B.Ins.right, B.isOp, B.hasA, B.hiB, B.loN, B.hiN, B.hiImm]; omega
  · simp [B.Ins.touch]; omega

theorem wrap_u64 (v : Int) : 0 ≤ IntKind.u64.wrap v ∧ IntKind.u64.wrap v ≤ 18446744073709551615 := by
  rw [IntKind.wrap_u64]; omega

/-- an instruction's variable -/
theorem line_box (o a b n m : Int) (w : World) : InsAt (w.alloc (.cells #[.int .i64 o, .int .i64 a, .int .i64 b, .int .i64 n, .int .u64 m] 33)).drew w.heap.size 0 ⟨o, a, b, n, m⟩ ∧ Below w.heap.size w (w.alloc (.cells #[.int .i64 o, .int .i64 a, .int .i64 b, .int .i64 n, .int .u64 m] 33)).drew ∧
    CellsAt (w.alloc (.cells #[.int .i64 o, .int .i64 a, .int .i64 b, .int .i64 n, .int .u64 m] 33)).drew w.heap.size 33 5 (fun j => (cellsI ⟨o, a, b, n, m⟩).getD j undef) := by
  refine ⟨(insAt_new ⟨o, a, b, n, m⟩ w).below ((Below.refl (w.heap.size + 1) _).drew) (by omega), ((Below.refl _ _).alloc (Nat.le_refl _) _).drew, ?_⟩
  refine CellsAt.drew (n := 5) ?_ 1
  refine ⟨_, heap_alloc_new w _, rfl, fun j hj => ?_⟩
  have : j = 0 ∨ j = 1 ∨ j = 2 ∨ j = 3 ∨ j = 4 := by omega
  rcases this with rfl | rfl | rfl | rfl | rfl <;> rfl

theorem info5 : (Tryz.prog.info? 33).map (·.size) = some 5 := by kernel_rfl

/-- the instructions that are put ahead -/
structure LinesAt (base : Nat) (size slots : Int) (k : Nat) (ao : Option Addr) (cp : Nat) (w wr : World) : Prop where
  ex : ∃ qs, OwnP wr base ao k cp qs ∧ ∀ y ∈ qs, LineOk size slots y
  bel : Below base w wr
set_option maxRecDepth 100000 in
set_option maxHeartbeats 3200000 in
theorem law (a0 : Option Addr) (len0 cap0 : Nat) (ps0 : List B.Ins) (sz0 sl0 : Int) (ra1 : Option Addr) (rn1 rc1 : Nat) (rl1 : List Int) (w : World) (hp0 : ProgAt w a0 len0 ps0) (hwf0 : ∀ y ∈ ps0, y.Wf) (hn0 : a0 = none → cap0 = 0) (hl0 : len0 ≤ 9223372036854775807) (hz0 : B.In64 sz0) (hs0 : B.In64 sl0) (hr1 : ListAt w ra1 rn1 (rl1.map (Value.int .i64))) (hi1 : ∀ b ∈ rl1, B.In64 b) (hrn1 : ra1 = none → rc1 = 0) (hrl1 : rn1 * 8 ≤ 140737488351232) (hR : Tabs w) :
    Calls Tryz.prog 4 #[.agg #[.slice a0 len0 cap0, .int .i64 sz0, .int .i64 sl0], .slice ra1 rn1 rc1] w (BoolOut true w) := by
  have _U0 := Lib.hid hn0
  have _U1 := Lib.hid hrn1
  have HP := Lib.hid hp0
  have HWF := Lib.hid hwf0
  have HR := Lib.hid hR
  have HI := Lib.hid hi1
  have HRL := Lib.hid hr1
  have HZ := Lib.hid hz0
  have HS := Lib.hid hs0
  have HBX := Lib.hid ((Below.refl w.heap.size w).alloc (Nat.le_refl _) (.cells #[.slice a0 len0 cap0, .int .i64 sz0, .int .i64 sl0] 37))
  have HAX := Lib.hid (heap_alloc_new w (.cells #[.slice a0 len0 cap0, .int .i64 sz0, .int .i64 sl0] 37))
  clear hp0 hwf0 hn0 hrn1 hR hi1 hr1 hz0 hs0
  by_cases hm : B.MayRun ps0 sz0 sl0
  · have HM := Lib.hid hm
    have hlen : len0 ≤ 16384 := by rw [HP.out.len]; exact hm.len
    have hsl := hm.hslots
    clear hm
    go_enter Tryz.func4, Tryz.ntmps4
    go_wp2_with fail
    refine (drop_yes a0 len0 cap0 ps0 sz0 sl0 _ (HP.out.below HBX.out (Nat.le_refl _)) HWF.out (HR.out.below HBX.out (Nat.le_refl _)) HM.out).mono ?_
    rintro e w1 ⟨ao, cp, rfl, hown, hb1⟩
    have HO := Lib.hid hown
    have HB1 := Lib.hid (HBX.out.trans (hb1.mono (by simp)))
    have HA1 := Lib.hid ((hb1.block w.heap.size (by simp)).trans HAX.out)
    have hs1 := HB1.out.size
    clear hown hb1
    go_wp2_with fail
    refine (works16_any _ (HR.out.below HB1.out (Nat.le_refl _))).mono ?_
    rintro e w2 ⟨rfl, hb2⟩
    have HB2 := Lib.hid (HB1.out.trans (hb2.mono hs1))
    have HA2 := Lib.hid ((hb2.block w.heap.size (lt_of_block HA1.out)).trans HA1.out)
    have HP2 : Hid (ProgAt w2 ao (B.drop ps0).length (B.drop ps0)) := HO.out.progAt.below hb2 (Nat.le_refl _)
    have hs2 := HB2.out.size
    clear hb2
    have hw2 : IntKind.i64.wrap ((len0 : Int) + (rn1 : Int)) = (len0 : Int) + (rn1 : Int) := IntWalk.i64_in _ (by omega)
    by_cases hbig : 16384 < len0 + rn1
    · have q1 : decide ((16384 : Int) < (len0 : Int) + (rn1 : Int)) = true := by simp; omega
      go_wp2_with fail
      refine (works16_any _ (HR.out.below HB2.out (Nat.le_refl _))).mono ?_
      rintro e w3 ⟨rfl, hb3⟩
      have HB3 := Lib.hid (HB2.out.trans (hb3.mono hs2))
      clear hb3
      go_wp2_with fail
      go_ret
      exact ⟨rfl, HB3.out⟩
    · have q1 : decide ((16384 : Int) < (len0 : Int) + (rn1 : Int)) = false := by simp; omega
      go_wp2_with fail
      go_loopw [9, 10] (fun v i wr => ∃ (k : Nat) (ao' : Option Addr) (cp' : Nat), k ≤ rn1 ∧ i = .int .i64 k ∧ v = .slice ao' k cp' ∧ LinesAt w2.heap.size sz0 sl0 k ao' cp' w2 wr) (fun _ i _ => rn1 - (intOf i).toNat)
      case atStart => exact ⟨0, none, 0, Nat.zero_le _, rfl, rfl, ⟨[], OwnP.nil _ _, by simp⟩, Below.refl _ _⟩
      case round =>
        obtain ⟨k, ao', cp', hk, rfl, rfl, ⟨qs, hown, hqs⟩, hb⟩ := hrel
        have HOL := Lib.hid hown
        have HQS := Lib.hid hqs
        have HB := Lib.hid hb
        have hszr := hb.size
        by_cases hlt : k < rn1
        · have hv : rl1[k]? = some (rl1[k]'(by have := HRL.out.len; simp at this; omega)) := List.getElem?_eq_getElem _
          generalize rl1[k]'(by have := HRL.out.len; simp at this; omega) = v at hv
          have hvi := HI.out v (List.mem_of_getElem? hv)
          obtain ⟨b, off, rfl, hbl, hc⟩ := HRL.out.at_ k (.int .i64 v) (by rw [List.getElem?_map, hv]; rfl)
          have hcr : wr.cell? ⟨b, off + k, none⟩ = some (.int .i64 v) := ((HB2.out.trans (hb.mono hs2)).cell (p := ⟨b, off + k, none⟩) hbl).trans hc
          have HVI := Lib.hid hvi
          have k0 : (0 : Int) ≤ (k : Int) := by omega
          have k1 : (k : Int) < (rn1 : Int) := by omega
          have hblr : b < wr.heap.size := by omega
          clear hv hvi hc hown hqs hb hbl
          go_upto_region 10 with fail
          go_region_held3 (fun w' => w'.cell? ⟨b, off + k, none⟩ = some (.int .i64 v)) (first | go_keep | assumption) ((refine (pick_any v 16 HVI.out (by omega) (by omega) _).mono ?_; rintro e w3 ⟨rfl, rfl⟩))
          all_goals go_upto_region 11 with fail
          all_goals obtain ⟨wx, hwx⟩ : ∃ wx, (wr.alloc (.cells #[.int .i64 1, .int .i64 (pickV v 16), .int .i64 0, .int .i64 0, .int .u64 (IntKind.u64.wrap v)] 33)).drew = wx := ⟨_, rfl⟩
          all_goals have HX := Lib.hid (line_box 1 (pickV v 16) 0 0 (IntKind.u64.wrap v) wr)
          all_goals rw [hwx] at HX
          all_goals rw [hwx]
          all_goals clear hwx hcr hblr
          all_goals have hpv := pickV_range v 16 (by omega)
          all_goals have hwu := wrap_u64 v
          all_goals have HL1 := Lib.hid (const_line sz0 sl0 (pickV v 16) (IntKind.u64.wrap v) hpv.1 hpv.2 hwu.1 hwu.2)
          all_goals have HPV := Lib.hid hpv
          all_goals have hwr : w2.heap.size ≤ wr.heap.size := hszr
          all_goals generalize pickV v 16 = pv at *
          all_goals generalize IntKind.u64.wrap v = uv at *
          all_goals clear hpv hwu
          all_goals have s0 := hsl.1
          all_goals have s1 := hsl.2
          all_goals have hws : IntKind.i64.wrap (sl0 - 1) = sl0 - 1 := IntWalk.i64_in _ (by omega)
          all_goals (
            by_cases hc3 : k % 3 = 1
            · have m3 : ((k : Int) % 3 == 1) = true := beq_iff_eq.2 (by omega)
              by_cases hs : 0 < sl0
              · have hs' : decide (0 < sl0) = true := by simpa using hs
                have HL2 := Lib.hid (in_line sz0 sl0 pv HPV.out.1 HPV.out.2 hs s1)
                have HTX : Hid (wx.there wr.heap.size 0 5) := CellsAt.there HX.out.2.2 (by omega)
                have hXl : wr.heap.size < wx.heap.size := CellsAt.blk HX.out.2.2
                have c1 := HX.out.1.c1
                simp only [Nat.zero_add] at c1
                clear hs hc3
                go_upto_region 13 with (refine wpList_store_mid (by rfl) 33 _ _ (by rfl) wr.heap.size 0 #[.int .i64 15, .int .i64 pv, .int .i64 (sl0 - 1), .int .i64 0, .int .u64 0] (by rfl) (by rfl) HTX.out info5 (by simp [Value.oneCell']) ?_)
                obtain ⟨wy, hwy⟩ : ∃ wy, wx.setCells wr.heap.size 0 [.int .i64 15, .int .i64 pv, .int .i64 (sl0 - 1), .int .i64 0, .int .u64 0] = wy := ⟨_, rfl⟩
                have hry := World.rangeAt_setCells_same wx wr.heap.size 0 [.int .i64 15, .int .i64 pv, .int .i64 (sl0 - 1), .int .i64 0, .int .u64 0] HTX.out
                rw [hwy] at hry
                have hBY : Below wr.heap.size wr wy := by rw [← hwy]; exact HX.out.2.1.grown (grownBy_setCells _ _ _ _) HX.out.2.1.size (fun k hk => by simp at hk; omega)
                have HBY := Lib.hid hBY
                have HOY : Hid (OwnP wy w2.heap.size ao' k cp' qs) := HOL.out.kept HBY.out
                have hws2 : w2.heap.size ≤ wy.heap.size := by have := hBY.size; omega
                rw [hwy]
                clear hwy c1 m3 hs' hBY
                have y0 := hry 0 _ rfl
                have y1 := hry 1 _ rfl
                have y2 := hry 2 _ rfl
                have y3 := hry 3 _ rfl
                have y4 := hry 4 _ rfl
                simp only [Nat.zero_add] at y0 y1 y2 y3 y4
                clear hry
                go_wp2_with (at_builtin; refine app_ins rfl _ _ rfl w2.heap.size rfl HOY.out rfl (by omega) hws2 ?_; intro ao2 cp2 w6 hown6 hb6 hs6)
                go_roundw
                case rel =>
                  refine ⟨k + 1, ao2, cp2, by omega, by go_num, rfl, ⟨qs ++ [⟨15, pv, sl0 - 1, 0, 0⟩], hown6, fun y hy => ?_⟩, HB.out.trans ((HBY.out.mono hwr).trans hb6)⟩
                  rcases List.mem_append.1 hy with h | h
                  · exact HQS.out y h
                  · rw [List.mem_singleton.1 h]; exact HL2.out
                case measure => simp [intOf]; omega
              · have hs' : decide (0 < sl0) = false := by simpa using hs
                clear hs hc3
                have HBY : Hid (Below wr.heap.size wr wx) := HX.out.2.1
                have HOY : Hid (OwnP wx w2.heap.size ao' k cp' qs) := HOL.out.kept HBY.out
                have hws2 : w2.heap.size ≤ wx.heap.size := by have := HBY.out.size; omega
                have c0 := HX.out.1.c0
                have c1 := HX.out.1.c1
                have c2 := HX.out.1.c2
                have c3 := HX.out.1.c3
                have c4 := HX.out.1.c4
                simp only [Nat.zero_add] at c1 c2 c3 c4
                go_wp2_with (at_builtin; refine app_ins rfl _ _ rfl w2.heap.size rfl HOY.out rfl (by omega) hws2 ?_; intro ao2 cp2 w6 hown6 hb6 hs6)
                go_roundw
                case rel =>
                  refine ⟨k + 1, ao2, cp2, by omega, by go_num, rfl, ⟨qs ++ [⟨1, pv, 0, 0, uv⟩], hown6, fun y hy => ?_⟩, HB.out.trans ((HBY.out.mono hwr).trans hb6)⟩
                  rcases List.mem_append.1 hy with h | h
                  · exact HQS.out y h
                  · rw [List.mem_singleton.1 h]; exact HL1.out
                case measure => simp [intOf]; omega
            · have m3 : ((k : Int) % 3 == 1) = false := beq_eq_false_iff_ne.2 (by omega)
              clear hc3
              have HBY : Hid (Below wr.heap.size wr wx) := HX.out.2.1
              have HOY : Hid (OwnP wx w2.heap.size ao' k cp' qs) := HOL.out.kept HBY.out
              have hws2 : w2.heap.size ≤ wx.heap.size := by have := HBY.out.size; omega
              have c0 := HX.out.1.c0
              have c1 := HX.out.1.c1
              have c2 := HX.out.1.c2
              have c3 := HX.out.1.c3
              have c4 := HX.out.1.c4
              simp only [Nat.zero_add] at c1 c2 c3 c4
              go_wp2_with (at_builtin; refine app_ins rfl _ _ rfl w2.heap.size rfl HOY.out rfl (by omega) hws2 ?_; intro ao2 cp2 w6 hown6 hb6 hs6)
              go_roundw
              case rel =>
                refine ⟨k + 1, ao2, cp2, by omega, by go_num, rfl, ⟨qs ++ [⟨1, pv, 0, 0, uv⟩], hown6, fun y hy => ?_⟩, HB.out.trans ((HBY.out.mono hwr).trans hb6)⟩
                rcases List.mem_append.1 hy with h | h
                · exact HQS.out y h
                · rw [List.mem_singleton.1 h]; exact HL1.out
              case measure => simp [intOf]; omega)
        · obtain rfl : k = rn1 := by omega
          have hwr : w2.heap.size ≤ wr.heap.size := hszr
          have HQL : Hid (qs.length = k) := hown.len.symm
          clear hown hqs hb
          obtain ⟨wo, hwo⟩ : ∃ wo : World, wo = wr := ⟨_, rfl⟩
          subst hwo
          go_wp2_with fail
          go_loopw [9, 12] (fun v i wr => ∃ (j : Nat) (ao2 : Option Addr) (cp2 : Nat), j ≤ len0 ∧ i = .int .i64 j ∧ v = .slice ao2 (k + j) cp2 ∧ OwnP wr w2.heap.size ao2 (k + j) cp2 (qs ++ ps0.take j) ∧ Below w2.heap.size w2 wr) (fun _ i _ => len0 - (intOf i).toNat)
          case atStart => exact ⟨0, ao', cp', Nat.zero_le _, rfl, rfl, by rw [List.take_zero, List.append_nil]; exact HOL.out, HB.out⟩
          case round =>
            obtain ⟨j, ao2, cp2, hj, rfl, rfl, hown2, hbj⟩ := hrel
            have HO2 := Lib.hid hown2
            have HBJ := Lib.hid hbj
            have hszj := hbj.size
            clear hown2
            by_cases hltj : j < len0
            · have hx : ps0[j]? = some (ps0[j]'(by have := HP.out.len; omega)) := List.getElem?_eq_getElem _
              generalize ps0[j]'(by have := HP.out.len; omega) = x at hx
              obtain ⟨b, off, rfl, hbl, hat⟩ := HP.out.at_ j x hx
              obtain ⟨h0, h1, h2, h3, h4⟩ := hat.below (HB2.out.trans (hbj.mono hs2)) hbl
              have HX := Lib.hid hx
              clear hx hat hbl hbj
              go_wp2_with (at_builtin; refine app_ins rfl _ _ rfl w2.heap.size rfl HO2.out rfl (by omega) (by omega) ?_; intro ao3 cp3 w6 hown6 hb6 hs6)
              go_roundw
              case rel => exact ⟨j + 1, ao3, cp3, by omega, by go_num, rfl, by rw [take_snoc' _ _ _ HX.out, ← List.append_assoc]; exact hown6, HBJ.out.trans hb6⟩
              case measure => simp [intOf]; omega
            · obtain rfl : j = len0 := by omega
              have HO3 : Hid (OwnP wr w2.heap.size ao2 (k + j) cp2 (qs ++ ps0)) := by
                have := HO2.out
                rw [List.take_of_length_le (by have := HP.out.len; omega)] at this
                exact this
              have HBW : Hid (Below w.heap.size w wr) := HB2.out.trans (hbj.mono hs2)
              have hG : wr.heap[w.heap.size]? = _ := (hbj.block w.heap.size (lt_of_block HA2.out)).trans HA2.out
              have q2 : wr.cell? ⟨w.heap.size, 1, none⟩ = some (.int .i64 sz0) := by rw [cell_of_row _ _ _ _ _ _ hG]; rfl
              have HPW : Hid (ProgAt wr ao (B.drop ps0).length (B.drop ps0)) := HP2.out.below hbj (Nat.le_refl _)
              have HMQ : Hid (B.MayRun (qs ++ ps0) sz0 sl0) := (lines_may HQS.out HM.out.hsize HM.out.hslots (by have := HQL.out; omega)).append HM.out (by have := HQL.out; have := HP.out.len; simp; omega)
              have HDQ : Hid (B.drop (qs ++ ps0) = B.drop ps0) := B.drop_ahead HM.out (lines_idle HQS.out)
              have HQWF : Hid (∀ y ∈ qs ++ ps0, y.Wf) := fun y hy => wf_right (HMQ.out.ok.mem y hy)
              clear HO2 hbj hG
              go_wp2_with fail
              refine (drop_yes ao2 (k + j) cp2 (qs ++ ps0) sz0 sl0 _ HO3.out.progAt HQWF.out (HR.out.below HBW.out (Nat.le_refl _)) HMQ.out).mono ?_
              rintro e w7 ⟨ao7, cp7, rfl, hown7, hb7⟩
              rw [HDQ.out] at hown7 ⊢
              have HO7 := Lib.hid hown7
              have HB7 := Lib.hid (HBW.out.trans (hb7.mono HBW.out.size))
              have HP7 : Hid (ProgAt w7 ao (B.drop ps0).length (B.drop ps0)) := HPW.out.below hb7 (Nat.le_refl _)
              have hdl : (B.drop ps0).length ≤ 16384 := HM.out.drop.len
              clear hown7 hb7 q2
              generalize B.drop ps0 = dq at *
              go_wp2_with fail
              refine (sameInstrs_yes ao7 ao dq.length cp7 dq.length cp dq _ HO7.out.progAt HP7.out (by omega)).mono ?_
              rintro e w8 ⟨rfl, hb8⟩
              have HB8 := Lib.hid (HB7.out.trans (hb8.mono HB7.out.size))
              clear hb8
              go_wp2_with fail
              go_ret
              exact ⟨rfl, HB8.out⟩
  · have HM : Hid (¬ B.MayRun ps0 sz0 sl0) := hm
    obtain ⟨T, v, hv⟩ := Er.shape _ (progEr_shape hm)
    have HV := Lib.hid hv
    clear hm hv
    go_enter Tryz.func4, Tryz.ntmps4
    go_wp2_with fail
    refine (drop_no a0 len0 cap0 ps0 sz0 sl0 _ (HP.out.below HBX.out (Nat.le_refl _)) HWF.out (HR.out.below HBX.out (Nat.le_refl _)) hl0 HM.out).mono ?_
    rintro e w1 ⟨rfl, hb1⟩
    rw [HV.out]
    have HB1 := Lib.hid (HBX.out.trans (hb1.mono (by simp)))
    have hs1 := HB1.out.size
    clear hb1
    go_wp2_with fail
    refine (works16_any _ (HR.out.below HB1.out (Nat.le_refl _))).mono ?_
    rintro e w2 ⟨rfl, hb2⟩
    have HB2 := Lib.hid (HB1.out.trans (hb2.mono hs1))
    have hs2 := HB2.out.size
    clear hb2
    go_wp2_with fail
    refine (works16_any _ (HR.out.below HB2.out (Nat.le_refl _))).mono ?_
    rintro e w3 ⟨rfl, hb3⟩
    have HB3 := Lib.hid (HB2.out.trans (hb3.mono hs2))
    clear hb3
    go_wp2_with fail
    go_ret
    exact ⟨rfl, HB3.out⟩

set_option maxRecDepth 100000 in
theorem lifted (os : Os) (started : os.Started) (H : Type) (enc : TypeId × Value → H) :
    ReturnsInHanded {} Tryz.checked os 4 .any (fun w args => (Rows.liveAheadSpec.pre enc Tryz.prog Tryz.f4 Rows.liveAheadRow.domain false w args ∧ laidMetH Tryz.prog laid1 w) ∧ sizedMet enc Tryz.prog Tryz.f4 (OpenSpec.ofChange Rows.liveAheadSpec) false w args)
      (Rows.liveAheadSpec.post enc Tryz.prog Tryz.f4 false true false false) := by
  refine returnsInHanded_of_change_and (C := Tryz.checked) (X := fun w _ => laidMetH Tryz.prog laid1 w) (fun _ _ _ hh h => h.of_heap hh) own started (by kernel_rfl) Tryz.func4
    (ChangeSpec.witness_shaped (enc := enc) (C := Tryz.checked) (os := os) (X := fun w _ => laidMetH Tryz.prog laid1 w) false (World.doorLaid Tryz.prog 93 os) #[.agg #[.slice none 0 0, .int .i64 0, .int .i64 0], .slice none 0 0] 8 rfl (World.shaped_of_RefB (by kernel_rfl) (by kernel_rfl)) (by kernel_rfl) (by kernel_rfl) (by kernel_rfl) (door_met1 os _)) ?_
  intro W base args ds gs before hval0 hW hcnd hsz0 hL _
  have hval : ∀ (j : Nat) t v, Tryz.f4.params[j]? = some t → args[j]? = some v → Value.okWide Tryz.prog W .any base t v := hval0
  have hsz : (DataW.weightsEach Tryz.prog (Tryz.f4.params.toList ++ Rows.liveAheadSpec.plain.varTypes Tryz.prog) (ds ++ gs)).all (· ≤ reachBytes) = true := hsz0
  have hW' := hW
  obtain ⟨p, q, hA0, hV, rfl, hfz, hnd⟩ := hW
  have hA : DataW.TrodAll enc Tryz.prog W 0 (fun _ => true) true Tryz.f4.params.toList args.toList ds p := hA0
  rw [Tryz.params4] at hA hval hsz
  have hA1 := hA
  obtain ⟨v0, vs0, d0, ds0, p0, q0, hargs, rfl, rfl, h0, r0⟩ := trodAll_cons hA
  obtain ⟨v1, vs1, d1, ds1, p1, q1, rfl, rfl, rfl, h1, r1⟩ := trodAll_cons r0
  obtain ⟨rfl, rfl, rfl⟩ := trodAll_nil r1
  obtain rfl : args = #[v0, v1] := by cases args; simp_all
  obtain ⟨rfl, rfl⟩ := trodVars_none hV
  obtain ⟨a0, len0, cap0, ps0, sz0, sl0, rfl, ⟨hp0, hwf0, hn0, hl0⟩, hz0, hs0⟩ := open_asked (hval 0 37 v0 rfl rfl) h0
  obtain ⟨ra1, rn1, rc1, rfl⟩ := okWide_slice Tryz.underlying38 (hval 1 38 v1 rfl rfl)
  obtain ⟨fuel1, hf1⟩ := h1
  obtain ⟨rl1, hr1, hi1, hrn1, hreach1⟩ := open_ints3 hf1
  have hrl1 := hreach1 _ _ 1 hsz rfl rfl
  have lt0 := trodAll_lt _ _ _ _ hA1
  clear hA0 hval0 hsz0
  refine (law a0 len0 cap0 ps0 sz0 sl0 ra1 rn1 rc1 rl1 W hp0 hwf0 hn0 hl0 hz0 hs0 hr1 hi1 hrn1 hrl1 (tabs_laid1 hL) ).mono fun e W' ⟨he, bel⟩ => ?_
  subst he
  exact ⟨_, rfl, _, _, _, [], _, [], hW', trodAll_mk1 (shut_bool Tryz.underlying4 _), below_trodAll laidOut bel _ _ _ _ (by kernel_rfl) hA1 lt0, rfl, bel.frame _, fun h => by cases h⟩

theorem said : Rows.LiveAheadSaid :=
  OpenClaim.holds_of_wide 4 Tryz.f4 rfl rfl rfl rfl rfl rfl rfl ⟨rfl, rfl, rfl, rfl, rfl⟩ rfl rfl rfl rfl rfl found Tryz.func4 joined instanced wrapped
    (fun os started H enc _ => lifted os started H enc)

theorem plain (f : FuncId) (fn : Func) (hf : Tryz.pinned.checked.prog.funcNamed "busbar/busbarlaw16.LiveAhead" = some f) (hfn : Tryz.pinned.checked.prog.funcs[f]? = some fn) :
    true = Tryz.pinned.checked.prog.looks [] ∧ ∀ (j : Nat) t, fn.params[j]? = some t → Tryz.pinned.checked.prog.wantsStandIn t = false := by
  obtain rfl : f = 4 := Option.some.inj (found.symm.trans hf) |>.symm
  obtain rfl : fn = Tryz.f4 := (Option.some.inj (Tryz.func4.symm.trans hfn)).symm
  refine ⟨by kernel_rfl, fun j t ht => ?_⟩
  rw [Tryz.params4] at ht
  have hm : t ∈ ([37, 38] : List TypeId) := by simpa using Array.mem_of_getElem? ht
  have hall : (([37, 38] : List TypeId).all fun u => !Tryz.prog.wantsStandIn u) = true := by kernel_rfl
  exact (show Tryz.prog.wantsStandIn t = false by simpa using List.all_eq_true.1 hall t hm)

theorem card : Rows.LiveAheadCardSaid :=
  Claim7.holds_tied_plain_at .later [] _ _ _ _ said (fun _ h => by cases h) (by kernel_rfl) (fun _ h => by cases h) liveAhead_row_tie rfl ⟨rfl, rfl⟩ (by kernel_rfl) rfl plain (by kernel_rfl)
#print axioms card

end LawLiveAhead
end Go.Proofs.YtdpbkchegbkefaaGreatDoor
