/- 'LowerAgain': of any message that may be and payload: what is read and laid again is the payload, without the bits that no active signal has: the statement holds of every input. No condition beyond the card's own: the listed variables hold what the program's text lays. -/
import Derived.Test.YtdpjbnjlognmeaaGreatDoorFrame
import Derived.Test.YtdpjbnjlognmeaaGreatDoorDoor1
import Derived.Test.YtdpjbnjlognmeaaGreatDoorFactLowerAgain
import Derived.Test.YtdpjbnjlognmeaaGreatDoorLyI
import Derived.Test.YtdpjbnjlognmeaaGreatDoorOpM
import Derived.Test.YtdpjbnjlognmeaaGreatDoorOpen5
import Derived.Deep.Cut
import Derived.Deep.RegionHeld3
namespace Go.Proofs.YtdpjbnjlognmeaaGreatDoor
open Go.ChangeShapes Go.WideShapes Go.ChangeAt Go.RowKit Go.Proofs.YtdpjbnjlognmeaaGreatDoor.Code

namespace LawLowerAgain

attribute [local go_sem ↓] Go.wp_at_zero Go.wp_at_succ


set_option maxRecDepth 100000 in
set_option maxHeartbeats 12800000 in
theorem law (m0 : B.Msg) (sa0 : Option Addr) (sn0 sc0 : Nat) (pa1 : Option Addr) (pn1 pc1 : Nat) (pay1 : List Nat) (w : World) (hs0 : SigsAt w sa0 sn0 m0.sigs) (hsl0 : sn0 ≤ 9223372036854775807) (hm0 : MsgWf m0) (hy1 : ListAt w pa1 pn1 (pay1.map u8V)) (hb1 : B.Bytes pay1) (hyn1 : pa1 = none → pc1 = 0) (hyl1 : pn1 ≤ 9223372036854775807) (hR : LReady w) :
    Calls Tryz.prog 6 #[.agg (msgC m0 (.slice sa0 sn0 sc0)), .slice pa1 pn1 pc1] w (BoolOut true w) := by
 have hn := hs0.len
 have HM := Lib.hid hm0
 have HS := Lib.hid hs0
 have HYL := Lib.hid hyl1
 have HY := Lib.hid hy1
 have HBY := Lib.hid hb1
 have hbox := RC.new (msgC m0 (.slice sa0 sn0 sc0)) 27 w (n := 8) rfl rfl
 have hbel : Below w.heap.size w (w.alloc (.cells (msgC m0 (.slice sa0 sn0 sc0)) 27)) := (Below.refl _ _).alloc (Nat.le_refl _) _
 obtain ⟨w1, hw1⟩ : ∃ w1, w.alloc (.cells (msgC m0 (.slice sa0 sn0 sc0)) 27) = w1 := ⟨_, rfl⟩
 rw [hw1] at hbox hbel
 have HU := Lib.hid (hR.utf8.below hbel (Nat.le_refl _))
 have HT := Lib.hid (hR.tabs.below hbel (Nat.le_refl _))
 have HBOX := Lib.hid hbox
 have HB := Lib.hid hbel
 have HN := Lib.hid hn
 clear hs0 hm0 hy1 hb1 hyn1 hyl1 hR hbox hbel hn hsl0
 go_enter Tryz.func6, Tryz.ntmps6
 go_upto_region 1 with fail
 try rw [hw1]
 clear hw1
 go_upto_region 3 with (go_at_call 7; refine (works15_any _ HU.out HT.out).mono ?_; rintro e w2 ⟨rfl, hb2⟩)
 have hbox2 := HBOX.out.below hb2 HBOX.out.blk
 have hrr2 := RC.range hbox2
 have HB2 := Lib.hid (HB.out.trans (hb2.mono HB.out.size))
 have HU2 := Lib.hid (HU.out.below hb2 (Nat.le_refl _))
 have HT2 := Lib.hid (HT.out.below hb2 (Nat.le_refl _))
 have HBOX2 := Lib.hid hbox2
 have hmsg := message_any apart_any m0 sa0 sn0 sc0 w2 HM.out (HS.out.below HB2.out (Nat.le_refl _)) HU2.out
 unfold ErrOut errL at hmsg
 clear hb2 hbox2 HBOX HB HU HT
 rcases Classical.em (m0.no.1 = 0) with h0 | h0
 case' inr =>
  rw [if_neg h0] at hmsg
  clear h0
  go_wp2_with (first
   | refine wpList_load_mid (by rfl) 27 _ (by rfl) w.heap.size 0 (by rfl) (msgC m0 (.slice sa0 sn0 sc0)).toList _ hrr2 Tryz.underlying27 (by rfl) (by kernel_rfl) ?_
   | (go_at_call 8; refine hmsg.mono ?_; rintro e w3 ⟨rfl, hb3⟩))
  go_ret
  exact ⟨rfl, HB2.out.trans (hb3.mono HB2.out.size)⟩
 rw [if_pos h0] at hmsg
 have hok := HM.out.ok h0
 have hn64 : sn0 ≤ 64 := by rw [HN.out]; exact hok.count
 obtain ⟨z, hz⟩ : ∃ z : Nat, m0.size = (z : Int) := ⟨m0.size.toNat, by have := hok.size; omega⟩
 have hz8 : z ≤ 8 := by have := hok.size; omega
 have HZ := Lib.hid hz
 have HOK := Lib.hid hok
 have H0 := Lib.hid h0
 have hplen : (B.padL pay1 z).length = m0.size.toNat := by rw [B.padL_len, hz]; rfl
 obtain ⟨s2, n2, e2, hy2, h2h, h2l, h2v⟩ := B.again_run hok (pay := B.padL pay1 z) hplen (List.replicate m0.sigs.length 77)
 have h2w := B.unpack_words hok hplen e2
 have h2n : s2.out.length = sn0 := by rw [HN.out]; exact h2l
 have h2m : s2.has.length = sn0 := by rw [HN.out, h2h]; simp [B.Msg.actives]
 have HE2 := Lib.hid e2
 have H2H := Lib.hid h2h
 have H2V := Lib.hid h2v
 have H2W := Lib.hid h2w
 have H2N := Lib.hid h2n
 have H2M := Lib.hid h2m
 clear e2 hy2 h2h h2l h2v h2w hplen h2n h2m
 clear h0 hz hok
 go_upto_region 5 with (first
  | refine wpList_load_mid (by rfl) 27 _ (by rfl) w.heap.size 0 (by rfl) (msgC m0 (.slice sa0 sn0 sc0)).toList _ hrr2 Tryz.underlying27 (by rfl) (by kernel_rfl) ?_
  | (go_at_call 8; refine hmsg.mono ?_; rintro e w3 ⟨rfl, hb3⟩))
 have hrr3 := RC.range (HBOX2.out.below hb3 HBOX2.out.blk)
 have HB3 := Lib.hid (HB2.out.trans (hb3.mono HB2.out.size))
 have HBOX3 := Lib.hid (HBOX2.out.below hb3 HBOX2.out.blk)
 have HU3 := Lib.hid (HU2.out.below hb3 (Nat.le_refl _))
 have HT3 := Lib.hid (HT2.out.below hb3 (Nat.le_refl _))
 clear hb3 hrr2 hmsg HBOX2 HU2 HT2 HB2
 have hsized := sized_any m0 (.slice sa0 sn0 sc0) pa1 z pn1 pc1 pay1 w3 (by omega) HZ.out (HY.out.below HB3.out (Nat.le_refl _)) HYL.out
 rw [sizedV_pad] at hsized
 go_upto_region 6 with (first
  | refine wpList_load_mid (by rfl) 27 _ (by rfl) w.heap.size 0 (by rfl) (msgC m0 (.slice sa0 sn0 sc0)).toList _ hrr3 Tryz.underlying27 (by rfl) (by kernel_rfl) ?_
  | (go_at_call 12; refine hsized.mono ?_; rintro e w4 ⟨la, lc, rfl, hown4, hb4⟩))
 have HB4 := Lib.hid (HB3.out.trans (hb4.mono HB3.out.size))
 have HBOX4 := Lib.hid (HBOX3.out.below hb4 HBOX3.out.blk)
 have HU4 := Lib.hid (HU3.out.below hb4 (Nat.le_refl _))
 have HT4 := Lib.hid (HT3.out.below hb4 (Nat.le_refl _))
 have HLA := Lib.hid (ListAt.ofOwn hown4.own)
 have hrr4 := RC.range HBOX4.out
 have hunp := unpacked_ok m0 sa0 la sn0 sc0 z lc (B.padL pay1 z) w4 HM.out (HS.out.below HB4.out (Nat.le_refl _)) HU4.out HT4.out H0.out HZ.out.symm HLA.out (B.padL_bytes HBY.out z)
 rw [HE2.out] at hunp
 replace hunp := hunp.mono fun e w' h => RanTold.atN (f := false) (sl := 0) (pay := s2.pay) (out := s2.out) (has := s2.has) (st := n2) (RanUni.ok h rfl) H2N.out H2M.out
 clear hown4 hb4 hrr3 hsized HBOX3 HU3 HT3 HB3
 go_upto_region 7 with (first
  | refine wpList_load_mid (by rfl) 27 _ (by rfl) w.heap.size 0 (by rfl) (msgC m0 (.slice sa0 sn0 sc0)).toList _ hrr4 Tryz.underlying27 (by rfl) (by kernel_rfl) ?_
  | (go_at_call 13; refine hunp.mono ?_; rintro e w5 ⟨b1, d1, b2, d2, b3, d3, rfl, o1, o2, o3, hb5⟩))
 have hbox6 := RC.new #[.bool false, .int .i64 0, .slice b1 s2.pay.length d1, .slice b2 sn0 d2, .slice b3 sn0 d3, .int .i64 (n2 : Int)] 44 w5 (n := 6) rfl rfl
 have hb56 : Below w5.heap.size w5 (w5.alloc (.cells #[.bool false, .int .i64 0, .slice b1 s2.pay.length d1, .slice b2 sn0 d2, .slice b3 sn0 d3, .int .i64 (n2 : Int)] 44)) := (Below.refl _ _).alloc (Nat.le_refl _) _
 obtain ⟨w6, hw6⟩ : ∃ w6, w5.alloc (.cells #[.bool false, .int .i64 0, .slice b1 s2.pay.length d1, .slice b2 sn0 d2, .slice b3 sn0 d3, .int .i64 (n2 : Int)] 44) = w6 := ⟨_, rfl⟩
 obtain ⟨Y, hY⟩ : ∃ Y, w5.heap.size = Y := ⟨_, rfl⟩
 rw [hw6] at hbox6 hb56
 have hb46 : Below w4.heap.size w4 w6 := hb5.trans (hb56.mono hb5.size)
 have HX6 := Lib.hid ((ListAt.ofOwn o2.own).below hb56 (Nat.le_refl _))
 have HY6 := Lib.hid ((ListAt.ofOwn o3.own).below hb56 (Nat.le_refl _))
 have HL6 := Lib.hid (HLA.out.below hb46 (Nat.le_refl _))
 have HBOX6 := Lib.hid (HBOX4.out.below hb46 HBOX4.out.blk)
 have HU6 := Lib.hid (HU4.out.below hb46 (Nat.le_refl _))
 have HT6 := Lib.hid (HT4.out.below hb46 (Nat.le_refl _))
 have HB6 := Lib.hid (HB4.out.trans (hb46.mono HB4.out.size))
 rw [hY] at hbox6
 have HRAN6 := Lib.hid hbox6
 try rw [hw6]
 try rw [hY]
 have c0 : w6.cell? ⟨Y, 0, none⟩ = some (.bool false) := hbox6.cell (j := 0) rfl
 have c4 : w6.cell? ⟨Y, 4, none⟩ = some (.slice b3 sn0 d3) := hbox6.cell (j := 4) rfl
 have k7 : w6.cell? ⟨w.heap.size, 7, none⟩ = some (.slice sa0 sn0 sc0) := HBOX6.out.cell (j := 7) rfl
 clear hw6 hY hbox6 hb56 hb46 o1 o2 o3 hb5 hrr4 hunp HBOX4 HU4 HT4 HLA HB4
 have hset7 := SetAt.new (fun _ => false) w6
 have hb67 : Below w6.heap.size w6 (w6.alloc (.cells (setC fun _ => false) 60)) := (Below.refl _ _).alloc (Nat.le_refl _) _
 have hz67 : (w6.alloc (.cells (setC fun _ => false) 60)).heap.size = w6.heap.size + 1 := by simp
 obtain ⟨w7, hw7⟩ : ∃ w7, w6.alloc (.cells (setC fun _ => false) 60) = w7 := ⟨_, rfl⟩
 obtain ⟨N, hN⟩ : ∃ N, w6.heap.size = N := ⟨_, rfl⟩
 have HNE := Lib.hid hN
 rw [hw7] at hset7 hb67 hz67
 rw [hN] at hset7 hb67 hz67
 obtain ⟨at', hat⟩ : ∃ a, m0.muxP (B.padL pay1 z) = a := ⟨_, rfl⟩
 rw [hat] at H2H H2V
 have HAG : Hid (AgAt m0 s2.out s2.has at' N 0 0 none w6 w7) := Lib.hid ⟨One.OwnV.nil _ _ _, by rw [B.Msg.ownedTo_zero]; exact hset7, hb67, by omega⟩
 rw [← setC_no] at hw7
 unfold noSet at hw7
 clear hset7 hb67 hz67 hat
 go_upto_region 11 with fail
 try rw [hw7]
 try rw [hN]
 clear hw7 hN c0 c4
 have k7 : w7.cell? ⟨w.heap.size, 7, none⟩ = some (.slice sa0 sn0 sc0) := (HBOX6.out.below HAG.out.bel (by rw [← HNE.out]; exact HBOX6.out.blk)).cell (j := 7) rfl
 go_wp2_with fail
 go_loopw [8, 10] (fun v i wr => ∃ (k c : Nat) (ao : Option Addr), k ≤ sn0 ∧ i = .int .i64 (k : Int) ∧ v = .slice ao k c ∧ Hid (AgAt m0 s2.out s2.has at' N k c ao w6 wr)) (fun _ i _ => sn0 - (intOf i).toNat)
 case atStart => exact ⟨0, 0, none, by omega, rfl, rfl, HAG⟩
 case round =>
  obtain ⟨k, c, ao, hk, rfl, rfl, HAK⟩ := hrel
  clear HAG k7
  have hNE := HNE.out
  have k7 : wr.cell? ⟨w.heap.size, 7, none⟩ = some (.slice sa0 sn0 sc0) := (HBOX6.out.below HAK.out.bel (by rw [← HNE.out]; exact HBOX6.out.blk)).cell (j := 7) rfl
  have hYN : Y < N := by rw [← HNE.out]; exact HRAN6.out.blk
  have hz1 : N + 1 ≤ wr.heap.size := HAK.out.blk
  by_cases hlt : k < sn0
  ·have e1 : ((k : Int) < sn0) = True := by simp; omega
   have hx : m0.sigs[k]? = some (m0.sigs[k]'(by have := HN.out; omega)) := List.getElem?_eq_getElem _
   generalize m0.sigs[k]'(by have := HN.out; omega) = s at hx
   have hhk : s2.has.getD k false = s.active at' := by rw [H2H.out]; exact B.actives_get hx
   obtain ⟨h, hh⟩ : ∃ h, s.active at' = h := ⟨_, rfl⟩
   rw [hh] at hhk
   have hyk : (s2.has.map Value.bool)[k]? = some (.bool h) := by
    have h1 : s2.has[k]? = some (s2.has.getD k false) := by rw [List.getD_eq_getElem?_getD, List.getElem?_eq_getElem (by rw [H2M.out]; exact hlt)]; rfl
    rw [List.getElem?_map, h1, hhk]
    rfl
   obtain ⟨yb, yo, rfl, hl4, c4⟩ := HY6.out.at_ k _ hyk
   replace c4 := (HAK.out.bel.cell (p := ⟨yb, yo + k, none⟩) (by rw [← HNE.out]; exact hl4)).trans c4
   have b4 : wr.cell? ⟨Y, 4, none⟩ = some (.slice (some ⟨yb, yo, none⟩) sn0 d3) := (HRAN6.out.below HAK.out.bel hYN).cell (j := 4) rfl
   have q0 : (0 : Int) ≤ (k : Int) := by omega
   have q1 : (k : Int) < sn0 := by omega
   have HX := Lib.hid hx
   have HA := Lib.hid hh
   have HH := Lib.hid hhk
   clear hx hh hhk hyk hl4
   cases h with
   | false =>
    clear hNE
    go_wp2_with (at_builtin; refine One.app_one Tryz.underlying29 infoSl (by rfl) rfl _ _ rfl (N + 1) rfl HAK.out.row (by rfl) rfl (by omega) (by omega) hz1 ?_; intro ao5 cap5 v5 hown5 hkeep5 hwh5 hb5)
    go_roundw
    case rel => exact ⟨k + 1, cap5, ao5, by omega, by go_num, rfl, Lib.hid (HAK.out.skip HX.out HA.out HH.out hown5 hb5)⟩
    case measure => simp [intOf]; omega
   | true =>
    obtain ⟨x, hxx⟩ : ∃ x, s2.out.getD k 0 = x := ⟨_, rfl⟩
    have hxk : (s2.out.map u64V)[k]? = some (u64V x) := by
     have h1 : s2.out[k]? = some (s2.out.getD k 0) := by rw [List.getD_eq_getElem?_getD, List.getElem?_eq_getElem (by rw [H2N.out]; exact hlt)]; rfl
     rw [List.getElem?_map, h1, hxx]
     rfl
    obtain ⟨xb, xo, rfl, hl3, c3⟩ := HX6.out.at_ k _ hxk
    replace c3 := (HAK.out.bel.cell (p := ⟨xb, xo + k, none⟩) (by rw [← HNE.out]; exact hl3)).trans c3
    unfold u64V at c3
    have b3' : wr.cell? ⟨Y, 3, none⟩ = some (.slice (some ⟨xb, xo, none⟩) sn0 d2) := (HRAN6.out.below HAK.out.bel hYN).cell (j := 3) rfl
    have HXX := Lib.hid hxx
    clear hxx hxk hl3 hNE
    go_upto_region 17 with (at_builtin; refine One.app_one Tryz.underlying29 infoSl (by rfl) rfl _ _ rfl (N + 1) rfl HAK.out.row (by rfl) rfl (by omega) (by omega) hz1 ?_; intro ao5 cap5 v5 hown5 hkeep5 hwh5 hb5)
    have hN5 : N < v5.heap.size := Nat.lt_of_lt_of_le HAK.out.blk hb5.size
    have hb65 : Below N w6 v5 := HAK.out.bel.trans (hb5.mono (Nat.le_succ _))
    have hbw5 : Below w.heap.size w v5 := HB6.out.trans (hb65.mono (by rw [← HNE.out]; exact HB6.out.size))
    have hs5 : SetAt v5 N (fun j => m0.ownedTo at' k j) := CellsAt.below HAK.out.set hb5 (Nat.lt_succ_self _)
    obtain ⟨sb, so, rfl, hl1, ta, tn, tc, hrow, hto, htn⟩ := HS.out.at_ k s HX.out
    have hrr := cells_below hrow hbw5 hl1
    have k7 : v5.cell? ⟨w.heap.size, 7, none⟩ = some (.slice (some ⟨sb, so, none⟩) sn0 sc0) := (HBOX6.out.below hb65 (by rw [← HNE.out]; exact HBOX6.out.blk)).cell (j := 7) rfl
    have hmem := List.mem_of_getElem? HX.out
    have hpl := (HOK.out.inPay s hmem).place
    have hbits : Calls Tryz.prog 24 #[.agg (sigC s (.slice ta tn tc))] v5 (BitsOut s v5) := (bits_any s (.slice ta tn tc) (HM.out.sigs s hmem) v5).mono fun e w' h => h.1 hpl
    have hb63 := (B.Sig.place_ok hpl).2.2
    have hbl : s.bits.length ≤ 9223372036854775807 := by rw [s.bits_length]; have := (B.Sig.place_ok hpl).1; omega
    have HS5 := Lib.hid hs5
    have HB63 := Lib.hid hb63
    have HBL := Lib.hid hbl
    have HOW5 := Lib.hid hown5
    have HB5 := Lib.hid hb5
    clear hpl hmem hrow hto hl1 htn hb65 hbw5 hs5 hb63 hbl hown5 hkeep5 hwh5 c3 c4 b4 b3' hb5
    go_upto_region 18 with (first
     | refine wpList_load_mid (by rfl) 40 _ (by rfl) sb (so + k * 19) (by rfl) (sigC s (.slice ta tn tc)).toList _ hrr Tryz.underlying40 (by rfl) (by rw [infoN40]; rfl) ?_
     | (go_at_call 24; refine hbits.mono ?_; rintro e v8 ⟨g, cp, rfl, hob, hb8⟩))
    have hset := setOf_any (some ⟨g, 0, none⟩) s.bits.length cp s.bits v8 (ListAt.ofOwn hob.own) HB63.out s.bits_nodup HBL.out
    have HB8 := Lib.hid hb8
    clear hob hb8 hrr hbits k7
    go_upto_region 19 with (first
     | (go_at_call 25; refine hset.mono ?_; rintro e v9 ⟨rfl, hb9⟩)
     | (refine wpList_store_mid (by rfl) 60 _ _ (by rfl) v9.heap.size 0 (setC (fun j => decide (j ∈ s.bits))) (by rfl) (by rfl) (by rw [setC_size]; exact there_alloc _ _ _ (by rfl)) (by rw [info60]; simp [setC_size]) (setC_ones _) ?_; generalize hv10 : World.setCells _ _ _ _ = v10))
    have hb10 : Below v9.heap.size v9 v10 := by
     rw [← hv10]
     exact ((Below.refl _ _).alloc (Nat.le_refl _) _).grown (grownBy_setCells _ _ _ _) (by simp) (fun k hk => by cases hk; exact Nat.le_refl _)
    have hs10 : SetAt v10 v9.heap.size (fun j => decide (j ∈ s.bits)) := by rw [← hv10]; exact SetAt.over _ _ (by rfl) _
    obtain ⟨T, hT⟩ : ∃ T, v9.heap.size = T := ⟨_, rfl⟩
    have hb510 : Below v5.heap.size v5 v10 := HB8.out.trans ((hb9.mono HB8.out.size).trans (hb10.mono (Nat.le_trans HB8.out.size hb9.size)))
    have hN10 : SetAt v10 N (fun j => m0.ownedTo at' k j) := CellsAt.below HS5.out hb510 hN5
    rw [hT] at hs10 ⊢
    have r1 := SetAt.range hN10
    have r2 := SetAt.range hs10
    have HUN := union_any (fun j => m0.ownedTo at' k j) (fun j => decide (j ∈ s.bits)) v10
    have HB510 := Lib.hid hb510
    have HN10 := Lib.hid hN10
    have hN10s : N < v10.heap.size := Nat.lt_of_lt_of_le hN5 hb510.size
    clear hv10 hb10 hs10 hT hb510 hN10 hset hb9 HB8 HS5
    go_wp2_with (first
     | refine wpList_load_mid (by rfl) 60 _ (by rfl) N 0 (by rfl) (setC (fun j => m0.ownedTo at' k j)).toList _ r1 Tryz.underlying60 (by rfl) (by rw [info60]; simp [setC_size]) ?_
     | refine wpList_load_mid (by rfl) 60 _ (by rfl) T 0 (by rfl) (setC (fun j => decide (j ∈ s.bits))).toList _ r2 Tryz.underlying60 (by rfl) (by rw [info60]; simp [setC_size]) ?_
     | (go_at_call 26; refine HUN.mono ?_; rintro e v11 ⟨rfl, hb11⟩; have hN11 := CellsAt.below HN10.out hb11 hN10s; have hth := SetAt.there hN11; have hst := SetAt.store hN11 (fun j => m0.ownedTo at' k j || decide (j ∈ s.bits)); have hgr := grownBy_setCells N (setC fun j => m0.ownedTo at' k j || decide (j ∈ s.bits)).toList 0 v11; have HST := Lib.hid hst; have HGR := Lib.hid hgr; clear hN11 hst hgr)
     | (refine wpList_store_mid (by rfl) 60 _ _ (by rfl) N 0 (setC fun j => m0.ownedTo at' k j || decide (j ∈ s.bits)) (by rfl) (by rfl) (by rw [setC_size]; exact hth) (by rw [info60]; simp [setC_size]) (setC_ones _) ?_; generalize hv12 : World.setCells _ _ _ _ = v12))
    have hst := HST.out
    have hgr := HGR.out
    rw [hv12] at hst hgr
    have HST2 := Lib.hid hst
    have HGR2 := Lib.hid hgr
    clear hst hgr HST HGR hv12 hth r1 r2 HUN
    go_roundw
    case rel => exact ⟨k + 1, cap5, ao5, by omega, by go_num, rfl, Lib.hid (HAK.out.next HX.out HA.out HH.out HXX.out HOW5.out HB5.out (HB510.out.trans (hb11.mono HB510.out.size)) HST2.out HGR2.out)⟩
    case measure => simp [intOf]; omega
  ·obtain rfl : sn0 = k := by omega
   have e1 : ((sn0 : Int) < sn0) = False := by simp
   have hlz : (B.padL ([] : List Nat) z).length = m0.size.toNat := by rw [B.padL_len, HZ.out]; rfl
   have hbz : B.Bytes (B.padL ([] : List Nat) z) := B.padL_bytes (fun b hb => by cases hb) z
   obtain ⟨s1, n1, e3, l1, y1, hbit⟩ := H2V.out (B.agL s2.out s2.has sn0) (B.padL [] z) (fun k hk => B.agL_get (by obtain ⟨s, hs, _⟩ := B.actives_at hk; rw [HN.out]; exact (List.getElem?_eq_some_iff.1 hs).1) (by rw [H2H.out]; exact hk)) hlz hbz
   have l1z : s1.pay.length = z := by rw [l1, HZ.out]; rfl
   have HBIT := Lib.hid hbit
   have HY1 := Lib.hid y1
   have HL1 := Lib.hid l1z
   have hbw : Below w.heap.size w wr := HB6.out.trans (HAK.out.bel.mono (by rw [← HNE.out]; exact HB6.out.size))
   have HBW := Lib.hid hbw
   have HBOXR := Lib.hid (HBOX6.out.below HAK.out.bel (by rw [← HNE.out]; exact HBOX6.out.blk))
   have HUR := Lib.hid (HU6.out.below HAK.out.bel (by rw [← HNE.out]; exact Nat.le_refl _))
   have HTR := Lib.hid (HT6.out.below HAK.out.bel (by rw [← HNE.out]; exact Nat.le_refl _))
   have HLR := Lib.hid (HL6.out.below HAK.out.bel (by rw [← HNE.out]; exact Nat.le_refl _))
   have HVR := Lib.hid (ListAt.ofOwn HAK.out.row.own)
   have HSIZED : Hid (∀ wy, Below wr.heap.size wr wy → Calls Tryz.prog 12 #[.agg (msgC m0 (.slice sa0 sn0 sc0)), .slice none 0 0] wy (SizedOut z ((B.padL [] z).map u8V) wy)) := Lib.hid (fun wy hb => by
    rw [← sizedV_pad]
    exact sized_any m0 (.slice sa0 sn0 sc0) none z 0 0 [] wy (by omega) HZ.out ⟨rfl, fun i v hv => by simp at hv⟩ (by omega))
   obtain ⟨r, hr⟩ : ∃ r, B.run m0.packI (B.agL s2.out s2.has sn0) 0 (B.start (B.padL [] z) m0.sigs.length) = r := ⟨_, rfl⟩
   have HPACK : Hid (∀ wy qa qc, Below wr.heap.size wr wy → ListAt wy qa z ((B.padL [] z).map u8V) → Calls Tryz.prog 11 #[.agg (msgC m0 (.slice sa0 sn0 sc0)), .slice qa z qc, .slice ao sn0 c] wy (RanUni r wy)) := Lib.hid (fun wy qa qc hb hq => by
    rw [← hr]
    exact packed_ok m0 sa0 qa ao sn0 sc0 z qc sn0 c (B.padL [] z) (B.agL s2.out s2.has sn0) wy HM.out (HS.out.below (HBW.out.trans (hb.mono HBW.out.size)) (Nat.le_refl _)) (HUR.out.below hb (Nat.le_refl _)) (HTR.out.below hb (Nat.le_refl _)) H0.out HZ.out.symm rfl hq (HVR.out.below hb (Nat.le_refl _)) hbz (B.agL_words H2W.out sn0))
   have HRR := Lib.hid (hr.symm.trans e3)
   have HNR : Hid (SetAt wr N (fun j => m0.owned at' j)) := Lib.hid (by rw [← B.Msg.ownedTo_all, ← HN.out]; exact HAK.out.set)
   have HNZ := Lib.hid HAK.out.blk
   clear hr e3 l1 y1 hbit l1z hbw hlz hNE hYN hz1
   go_upto_region 22 with fail
   clear k7
   go_cut [15, 7] from 97 to 104 (fun p q wx => ∃ X : Nat, p = .pointer (some ⟨X, 0, none⟩) ∧ q = .bool true ∧ RanBox r X wr wx)
   case first =>
    refine wp_region_held_drew (S := Below wr.heap.size wr) (by kernel_rfl) (Below.refl _ _).drew (fun hS1 => ?_)
    refine take_slot (i := 0) (d := 98) (v := .agg (msgC m0 (.slice sa0 sn0 sc0))) rfl rfl (by kernel_rfl) (by kernel_rfl) (by kernel_rfl) (fun _ _ _ h => h) (yieldsIf_load_mid (by rfl) 27 (.tmp 2) rfl w.heap.size 0 rfl ((msgC m0 (.slice sa0 sn0 sc0)) : Array Value).toList _ (fun w' h => RC.range (HBOXR.out.below h HBOXR.out.blk)) Tryz.underlying27 rfl (by kernel_rfl)) hS1 ?_
    try simp only [Act.put, List.setIfInBounds_toArray, List.set_cons_zero, List.set_cons_succ]
    refine take_slot (i := 1) (d := 99) (v := .agg (msgC m0 (.slice sa0 sn0 sc0))) rfl rfl (by kernel_rfl) (by kernel_rfl) (by kernel_rfl) (fun _ _ _ h => h) (yieldsIf_load_mid (by rfl) 27 (.tmp 2) rfl w.heap.size 0 rfl ((msgC m0 (.slice sa0 sn0 sc0)) : Array Value).toList _ (fun w' h => RC.range (HBOXR.out.below h HBOXR.out.blk)) Tryz.underlying27 rfl (by kernel_rfl)) hS1 ?_
    try simp only [Act.put, List.setIfInBounds_toArray, List.set_cons_zero, List.set_cons_succ]
    refine take_slot (i := 3) (d := 101) (v := .slice ao sn0 c) rfl rfl (by kernel_rfl) (by kernel_rfl) (by kernel_rfl) (fun _ _ _ h => h) (Or.inl ⟨by rfl, fun w' h => by go_simp⟩) hS1 ?_
    try simp only [Act.put, List.setIfInBounds_toArray, List.set_cons_zero, List.set_cons_succ]
    refine wpAnyH_ready (rs := [2, 8]) (by kernel_rfl) (by simp) ?_
    refine AllReadyH.cons rfl (fun K hK => ?_) (AllReadyH.cons rfl (fun K hK => ?_) AllReadyH.nil)
    ·go_simp
     refine (HSIZED.out _ hS1).mono ?_
     rintro e y1 ⟨qa, qc, rfl, hq1, hbq⟩
     refine hK.out _ _ (hS1.trans (hbq.mono hS1.size)) (fun hS2 => ?_)
     clear hK K
     try simp only [Act.put, List.setIfInBounds_toArray, List.set_cons_zero, List.set_cons_succ]
     refine wpAnyH_ready (rs := [4, 8]) (by kernel_rfl) (by simp) ?_
     refine AllReadyH.cons rfl (fun K hK => ?_) (AllReadyH.cons rfl (fun K hK => ?_) AllReadyH.nil)
     ·go_simp
      refine (HPACK.out _ qa qc hS2 (ListAt.ofOwn hq1.own)).mono ?_
      rintro e y2 ⟨a1, c1, a2, c2, a3, c3, rfl, o1, o2, o3, hbp⟩
      refine hK.out _ _ (hS2.trans (hbp.mono hS2.size)) (fun hS3 => ?_)
      clear hK K
      try simp only [Act.put, List.setIfInBounds_toArray, List.set_cons_zero, List.set_cons_succ]
      replace o1 := o1.weaken (base' := wr.heap.size) hS2.size
      replace o2 := o2.weaken (base' := wr.heap.size) hS2.size
      replace o3 := o3.weaken (base' := wr.heap.size) hS2.size
      refine take_slot (i := 5) (d := 97) (v := .tuple #[.agg #[.bool (fl r), .int .i64 (slotOf r), .slice a1 (payL r).length c1, .slice a2 (outL r).length c2, .slice a3 (hasL r).length c3, .int .i64 (r.steps : Int)], .bool true]) rfl rfl (by kernel_rfl) (by kernel_rfl) (by kernel_rfl) (fun _ _ _ h => h) (Or.inl ⟨by rfl, fun w' h => by go_simp⟩) hS3 ?_
      try simp only [Act.put, List.setIfInBounds_toArray, List.set_cons_zero, List.set_cons_succ]
      refine take_slot (i := 6) (d := 103) (v := .agg #[.bool (fl r), .int .i64 (slotOf r), .slice a1 (payL r).length c1, .slice a2 (outL r).length c2, .slice a3 (hasL r).length c3, .int .i64 (r.steps : Int)]) rfl rfl (by kernel_rfl) (by kernel_rfl) (by kernel_rfl) (fun _ _ _ h => h) (Or.inl ⟨by rfl, fun w' h => by go_simp⟩) hS3 ?_
      try simp only [Act.put, List.setIfInBounds_toArray, List.set_cons_zero, List.set_cons_succ]
      refine take_slot (i := 7) (d := 104) (v := .bool true) rfl rfl (by kernel_rfl) (by kernel_rfl) (by kernel_rfl) (fun _ _ _ h => h) (Or.inl ⟨by rfl, fun w' h => by go_simp⟩) hS3 ?_
      try simp only [Act.put, List.setIfInBounds_toArray, List.set_cons_zero, List.set_cons_succ]
      refine wpAnyH_ready (rs := [8]) (by kernel_rfl) (by simp) ?_
      refine AllReadyH.cons rfl (fun K hK => ?_) AllReadyH.nil
      refine step_alloc rfl rfl ?_
      intro X ya hzA hXl hgA
      have hbA : Below y2.heap.size y2 ya := (Below.refl _ _).grown hgA (Nat.le_refl _) (fun k hk => by cases hk)
      have hXle : wr.heap.size ≤ X := Nat.le_trans hS3.size hXl
      refine hK.out _ _ (hS3.trans (hbA.mono hS3.size)) (fun hS4 => ?_)
      clear hK K
      try simp only [Act.put, List.getElem_toArray, List.getElem_cons_succ, List.getElem_cons_zero, List.setIfInBounds_toArray, List.set_cons_zero, List.set_cons_succ]
      replace o1 := o1.kept hbA
      replace o2 := o2.kept hbA
      replace o3 := o3.kept hbA
      have hG := hzA
      refine wpAnyH_ready (rs := [9]) (by kernel_rfl) (by simp) ?_
      refine AllReadyH.cons rfl (fun K hK => ?_) AllReadyH.nil
      refine step_store rfl (.tmp 15) (.tmp 103) rfl rfl rfl hG rfl (by simp [Value.oneCell']) ?_
      intro wx hrow6 hg6
      have hbox := ranBox_mk (r := r) hG o1 o2 o3 hS4 hXle hg6 hrow6
      refine hK.out _ _ (hS4.grown hg6 hS4.size (fun k hk => by cases hk; exact hXle)) (fun hS9 => ?_)
      clear hK K
      try simp only [Act.put, List.getElem_toArray, List.getElem_cons_succ, List.getElem_cons_zero, List.setIfInBounds_toArray, List.set_cons_zero, List.set_cons_succ]
      refine take_slot (i := 10) (d := 7) (v := .bool true) rfl rfl (by kernel_rfl) (by kernel_rfl) (by kernel_rfl) (fun _ _ _ h => h) (Or.inl ⟨by rfl, fun w' h => by go_simp⟩) hS9 ?_
      try simp only [Act.put, List.setIfInBounds_toArray, List.set_cons_zero, List.set_cons_succ]
      refine wpAnyH_done (by kernel_rfl) ?_ _
      go_wp2_with fail
      go_meet
      case rel => exact ⟨X, rfl, rfl, hbox⟩
     ·refine step_alloc rfl rfl ?_
      intro X ya hzA hXl hgA
      have hbA : Below y1.heap.size y1 ya := (Below.refl _ _).grown hgA (Nat.le_refl _) (fun k hk => by cases hk)
      have hXle : wr.heap.size ≤ X := Nat.le_trans hS2.size hXl
      refine hK.out _ _ (hS2.trans (hbA.mono hS2.size)) (fun hS3 => ?_)
      clear hK K
      try simp only [Act.put, List.getElem_toArray, List.getElem_cons_succ, List.getElem_cons_zero, List.setIfInBounds_toArray, List.set_cons_zero, List.set_cons_succ]
      replace hq1 := hq1.kept hbA
      refine wpAnyH_ready (rs := [4]) (by kernel_rfl) (by simp) ?_
      refine AllReadyH.cons rfl (fun K hK => ?_) AllReadyH.nil
      go_simp
      refine (HPACK.out _ qa qc hS3 (ListAt.ofOwn hq1.own)).mono ?_
      rintro e y2 ⟨a1, c1, a2, c2, a3, c3, rfl, o1, o2, o3, hbp⟩
      refine hK.out _ _ (hS3.trans (hbp.mono hS3.size)) (fun hS4 => ?_)
      clear hK K
      try simp only [Act.put, List.setIfInBounds_toArray, List.set_cons_zero, List.set_cons_succ]
      replace o1 := o1.weaken (base' := wr.heap.size) hS3.size
      replace o2 := o2.weaken (base' := wr.heap.size) hS3.size
      replace o3 := o3.weaken (base' := wr.heap.size) hS3.size
      refine take_slot (i := 5) (d := 97) (v := .tuple #[.agg #[.bool (fl r), .int .i64 (slotOf r), .slice a1 (payL r).length c1, .slice a2 (outL r).length c2, .slice a3 (hasL r).length c3, .int .i64 (r.steps : Int)], .bool true]) rfl rfl (by kernel_rfl) (by kernel_rfl) (by kernel_rfl) (fun _ _ _ h => h) (Or.inl ⟨by rfl, fun w' h => by go_simp⟩) hS4 ?_
      try simp only [Act.put, List.setIfInBounds_toArray, List.set_cons_zero, List.set_cons_succ]
      refine take_slot (i := 6) (d := 103) (v := .agg #[.bool (fl r), .int .i64 (slotOf r), .slice a1 (payL r).length c1, .slice a2 (outL r).length c2, .slice a3 (hasL r).length c3, .int .i64 (r.steps : Int)]) rfl rfl (by kernel_rfl) (by kernel_rfl) (by kernel_rfl) (fun _ _ _ h => h) (Or.inl ⟨by rfl, fun w' h => by go_simp⟩) hS4 ?_
      try simp only [Act.put, List.setIfInBounds_toArray, List.set_cons_zero, List.set_cons_succ]
      refine take_slot (i := 7) (d := 104) (v := .bool true) rfl rfl (by kernel_rfl) (by kernel_rfl) (by kernel_rfl) (fun _ _ _ h => h) (Or.inl ⟨by rfl, fun w' h => by go_simp⟩) hS4 ?_
      try simp only [Act.put, List.setIfInBounds_toArray, List.set_cons_zero, List.set_cons_succ]
      have hG := (hbp.block _ (lt_of_block hzA)).trans hzA
      refine wpAnyH_ready (rs := [9]) (by kernel_rfl) (by simp) ?_
      refine AllReadyH.cons rfl (fun K hK => ?_) AllReadyH.nil
      refine step_store rfl (.tmp 15) (.tmp 103) rfl rfl rfl hG rfl (by simp [Value.oneCell']) ?_
      intro wx hrow6 hg6
      have hbox := ranBox_mk (r := r) hG o1 o2 o3 hS4 hXle hg6 hrow6
      refine hK.out _ _ (hS4.grown hg6 hS4.size (fun k hk => by cases hk; exact hXle)) (fun hS9 => ?_)
      clear hK K
      try simp only [Act.put, List.getElem_toArray, List.getElem_cons_succ, List.getElem_cons_zero, List.setIfInBounds_toArray, List.set_cons_zero, List.set_cons_succ]
      refine take_slot (i := 10) (d := 7) (v := .bool true) rfl rfl (by kernel_rfl) (by kernel_rfl) (by kernel_rfl) (fun _ _ _ h => h) (Or.inl ⟨by rfl, fun w' h => by go_simp⟩) hS9 ?_
      try simp only [Act.put, List.setIfInBounds_toArray, List.set_cons_zero, List.set_cons_succ]
      refine wpAnyH_done (by kernel_rfl) ?_ _
      go_wp2_with fail
      go_meet
      case rel => exact ⟨X, rfl, rfl, hbox⟩
    ·refine step_alloc rfl rfl ?_
     intro X ya hzA hXl hgA
     have hbA : Below wr.drew.heap.size wr.drew ya := (Below.refl _ _).grown hgA (Nat.le_refl _) (fun k hk => by cases hk)
     have hXle : wr.heap.size ≤ X := Nat.le_trans hS1.size hXl
     refine hK.out _ _ (hS1.trans (hbA.mono hS1.size)) (fun hS2 => ?_)
     clear hK K
     try simp only [Act.put, List.getElem_toArray, List.getElem_cons_succ, List.getElem_cons_zero, List.setIfInBounds_toArray, List.set_cons_zero, List.set_cons_succ]
     refine wpAnyH_ready (rs := [2]) (by kernel_rfl) (by simp) ?_
     refine AllReadyH.cons rfl (fun K hK => ?_) AllReadyH.nil
     go_simp
     refine (HSIZED.out _ hS2).mono ?_
     rintro e y1 ⟨qa, qc, rfl, hq1, hbq⟩
     refine hK.out _ _ (hS2.trans (hbq.mono hS2.size)) (fun hS3 => ?_)
     clear hK K
     try simp only [Act.put, List.setIfInBounds_toArray, List.set_cons_zero, List.set_cons_succ]
     refine wpAnyH_ready (rs := [4]) (by kernel_rfl) (by simp) ?_
     refine AllReadyH.cons rfl (fun K hK => ?_) AllReadyH.nil
     go_simp
     refine (HPACK.out _ qa qc hS3 (ListAt.ofOwn hq1.own)).mono ?_
     rintro e y2 ⟨a1, c1, a2, c2, a3, c3, rfl, o1, o2, o3, hbp⟩
     refine hK.out _ _ (hS3.trans (hbp.mono hS3.size)) (fun hS4 => ?_)
     clear hK K
     try simp only [Act.put, List.setIfInBounds_toArray, List.set_cons_zero, List.set_cons_succ]
     replace o1 := o1.weaken (base' := wr.heap.size) hS3.size
     replace o2 := o2.weaken (base' := wr.heap.size) hS3.size
     replace o3 := o3.weaken (base' := wr.heap.size) hS3.size
     refine take_slot (i := 5) (d := 97) (v := .tuple #[.agg #[.bool (fl r), .int .i64 (slotOf r), .slice a1 (payL r).length c1, .slice a2 (outL r).length c2, .slice a3 (hasL r).length c3, .int .i64 (r.steps : Int)], .bool true]) rfl rfl (by kernel_rfl) (by kernel_rfl) (by kernel_rfl) (fun _ _ _ h => h) (Or.inl ⟨by rfl, fun w' h => by go_simp⟩) hS4 ?_
     try simp only [Act.put, List.setIfInBounds_toArray, List.set_cons_zero, List.set_cons_succ]
     refine take_slot (i := 6) (d := 103) (v := .agg #[.bool (fl r), .int .i64 (slotOf r), .slice a1 (payL r).length c1, .slice a2 (outL r).length c2, .slice a3 (hasL r).length c3, .int .i64 (r.steps : Int)]) rfl rfl (by kernel_rfl) (by kernel_rfl) (by kernel_rfl) (fun _ _ _ h => h) (Or.inl ⟨by rfl, fun w' h => by go_simp⟩) hS4 ?_
     try simp only [Act.put, List.setIfInBounds_toArray, List.set_cons_zero, List.set_cons_succ]
     refine take_slot (i := 7) (d := 104) (v := .bool true) rfl rfl (by kernel_rfl) (by kernel_rfl) (by kernel_rfl) (fun _ _ _ h => h) (Or.inl ⟨by rfl, fun w' h => by go_simp⟩) hS4 ?_
     try simp only [Act.put, List.setIfInBounds_toArray, List.set_cons_zero, List.set_cons_succ]
     have hG := (hbp.block _ (Nat.lt_of_lt_of_le (lt_of_block hzA) hbq.size)).trans ((hbq.block _ (lt_of_block hzA)).trans hzA)
     refine wpAnyH_ready (rs := [9]) (by kernel_rfl) (by simp) ?_
     refine AllReadyH.cons rfl (fun K hK => ?_) AllReadyH.nil
     refine step_store rfl (.tmp 15) (.tmp 103) rfl rfl rfl hG rfl (by simp [Value.oneCell']) ?_
     intro wx hrow6 hg6
     have hbox := ranBox_mk (r := r) hG o1 o2 o3 hS4 hXle hg6 hrow6
     refine hK.out _ _ (hS4.grown hg6 hS4.size (fun k hk => by cases hk; exact hXle)) (fun hS9 => ?_)
     clear hK K
     try simp only [Act.put, List.getElem_toArray, List.getElem_cons_succ, List.getElem_cons_zero, List.setIfInBounds_toArray, List.set_cons_zero, List.set_cons_succ]
     refine take_slot (i := 10) (d := 7) (v := .bool true) rfl rfl (by kernel_rfl) (by kernel_rfl) (by kernel_rfl) (fun _ _ _ h => h) (Or.inl ⟨by rfl, fun w' h => by go_simp⟩) hS9 ?_
     try simp only [Act.put, List.setIfInBounds_toArray, List.set_cons_zero, List.set_cons_succ]
     refine wpAnyH_done (by kernel_rfl) ?_ _
     go_wp2_with fail
     go_meet
     case rel => exact ⟨X, rfl, rfl, hbox⟩
   case rest =>
    obtain ⟨X, rfl, rfl, hbx⟩ := hcut
    obtain rfl := HRR.out
    obtain ⟨a1, c1, a2, c2, a3, c3, hX, o1, o2, o3, hbc, _⟩ := hbx
    have HBC := Lib.hid (HBW.out.trans (hbc.mono HBW.out.size))
    have hLc := HLR.out.below hbc (Nat.le_refl _)
    have hPc := ListAt.ofOwn o1.own
    have hNc := CellsAt.below HNR.out hbc HNZ.out
    replace hPc : ListAt wc a1 z (s1.pay.map u8V) := by rw [← HL1.out]; exact hPc
    replace hX : RC wc X 44 6 #[.bool false, .int .i64 0, .slice a1 z c1, .slice a2 s1.out.length c2, .slice a3 s1.has.length c3, .int .i64 (n1 : Int)] := by rw [← HL1.out]; exact hX
    have HLC := Lib.hid hLc
    have HPC := Lib.hid hPc
    have HNC := Lib.hid hNc
    have c0 : wc.cell? ⟨X, 0, none⟩ = some (.bool false) := hX.cell (j := 0) rfl
    have c2' : wc.cell? ⟨X, 2, none⟩ = some (.slice a1 z c1) := hX.cell (j := 2) rfl
    clear hLc hPc hNc hX o1 o2 o3 hbc HRR HSIZED HPACK
    go_wp2_with fail
    clear c0
    go_loop [16] (fun i => ∃ j : Nat, j ≤ 8 * z ∧ i = .int .i64 (j : Int)) (fun i => 8 * z - (intOf i).toNat)
    case atStart => exact ⟨0, by omega, rfl⟩
    case round =>
     obtain ⟨j, hj, rfl⟩ := hrel
     by_cases hlt : j < 8 * z
     ·have e2 : ((j : Int) < 8 * (z : Int)) = True := by simp; omega
      have hG1 := get_any la z lc (B.padL pay1 z) j wc HLC.out hz8 hlt (B.padL_bytes HBY.out z)
      have hG2 := get_any a1 z c1 s1.pay j wc HPC.out hz8 hlt HY1.out
      have cs : wc.cell? ⟨N, j, none⟩ = some (.bool (m0.owned at' j)) := CellsAt.cell HNC.out (j := j) (by omega)
      rw [HBIT.out j] at hG2
      generalize B.payBit (B.padL pay1 z) j = a at hG1 hG2
      generalize m0.owned at' j = o at hG2 cs
      have q0 : (0 : Int) ≤ (j : Int) := by omega
      have q1 : (j : Int) < 64 := by omega
      cases a <;> cases o
      all_goals
       simp only [Bool.and_true, Bool.and_false, Bool.true_and, Bool.false_and] at hG2
       go_upto_region 29 with (go_at_call 27; refine hG1.mono ?_; rintro e w' ⟨rfl, hw⟩; obtain rfl := hw.symm)
       go_wp2_with (go_at_call 27; refine hG2.mono ?_; rintro e w' ⟨rfl, hw⟩; obtain rfl := hw.symm)
       go_round
       case rel => exact ⟨j + 1, by omega, by go_num⟩
       case measure => simp [intOf]; omega
     ·have e2 : ((j : Int) < 8 * (z : Int)) = False := by simp; omega
      go_wp2_with fail
      go_ret
      exact ⟨rfl, HBC.out⟩

set_option maxRecDepth 100000 in
theorem lifted (os : Os) (started : os.Started) (H : Type) (enc : TypeId × Value → H) :
    ReturnsInHanded {} Tryz.checked os 6 .any (fun w args => (Rows.lowerAgainSpec.pre enc Tryz.prog Tryz.f6 Rows.lowerAgainRow.domain false w args ∧ laidMetH Tryz.prog laid3 w) ∧ sizedMet enc Tryz.prog Tryz.f6 (OpenSpec.ofChange Rows.lowerAgainSpec) false w args)
     (Rows.lowerAgainSpec.post enc Tryz.prog Tryz.f6 false true false false) := by
 refine returnsInHanded_of_change_and (C := Tryz.checked) (X := fun w _ => laidMetH Tryz.prog laid3 w) (fun _ _ _ hh h => h.of_heap hh) own started (by kernel_rfl) Tryz.func6
  (ChangeSpec.witness_shaped (enc := enc) (C := Tryz.checked) (os := os) (X := fun w _ => laidMetH Tryz.prog laid3 w) false (World.laidAll Tryz.prog os laid3) #[.agg #[.int .i64 0, .int .i64 0, .int .u32 0, .bool false, .string ⟨#[]⟩, .int .i64 0, .string ⟨#[]⟩, .slice none 0 0], .slice none 0 0] 8 (World.laidAll_os _ _ _) (World.shaped_of_ZipB (by kernel_rfl) (by kernel_rfl)) (by kernel_rfl) (by kernel_rfl) (by kernel_rfl) (door_met3 os _)) ?_
 intro W base args ds gs before hval0 hW hcnd hsz0 hL _
 have hval : ∀ (j : Nat) t v, Tryz.f6.params[j]? = some t → args[j]? = some v → Value.okWide Tryz.prog W .any base t v := hval0
 have hsz : (DataW.weightsEach Tryz.prog (Tryz.f6.params.toList ++ Rows.lowerAgainSpec.plain.varTypes Tryz.prog) (ds ++ gs)).all (· ≤ reachBytes) = true := hsz0
 have hW' := hW
 obtain ⟨p, q, hA0, hV, rfl, hfz, hnd⟩ := hW
 have hA : DataW.TrodAll enc Tryz.prog W 0 (fun _ => true) true Tryz.f6.params.toList args.toList ds p := hA0
 rw [Tryz.params6] at hA hval hsz
 have hA1 := hA
 obtain ⟨v0, vs0, d0, ds0, p0, q0, hargs, rfl, rfl, h0, r0⟩ := trodAll_cons hA
 obtain ⟨v1, vs1, d1, ds1, p1, q1, rfl, rfl, rfl, h1, r1⟩ := trodAll_cons r0
 obtain ⟨rfl, rfl, rfl⟩ := trodAll_nil r1
 obtain rfl : args = #[v0, v1] := by cases args; simp_all
 obtain ⟨rfl, rfl⟩ := trodVars_none hV
 obtain ⟨m0, sa0, sn0, sc0, rfl, hs0, hsl0, hm0⟩ := open_msg (hval 0 27 v0 rfl rfl) h0
 obtain ⟨pa1, pn1, pc1, rfl⟩ := okWide_slice Tryz.underlying28 (hval 1 28 v1 rfl rfl)
 obtain ⟨fuel1, hf1⟩ := h1
 obtain ⟨pay1, hy1, hb1, hyn1, hyl1⟩ := open_bytes hf1
 have lt0 := trodAll_lt _ _ _ _ hA1
 clear hA0 hval0 hsz0
 refine (law m0 sa0 sn0 sc0 pa1 pn1 pc1 pay1 W hs0 hsl0 hm0 hy1 hb1 hyn1 hyl1 (lready_laid3 hL) ).mono fun e W' ⟨he, bel⟩ => ?_
 subst he
 exact ⟨_, rfl, _, _, _, [], _, [], hW', trodAll_mk1 (shut_bool Tryz.underlying4 _), below_trodAll laidOut bel _ _ _ _ (by kernel_rfl) hA1 lt0, rfl, bel.frame _, fun h => by cases h⟩

theorem said : Rows.LowerAgainSaid :=
 OpenClaim.holds_of_wide 6 Tryz.f6 rfl rfl rfl rfl rfl rfl rfl ⟨rfl, rfl, rfl, rfl, rfl⟩ rfl rfl rfl rfl rfl found Tryz.func6 joined instanced wrapped
  (fun os started H enc _ => lifted os started H enc)

theorem plain (f : FuncId) (fn : Func) (hf : Tryz.pinned.checked.prog.funcNamed "busbar/busbarlaw15.LowerAgain" = some f) (hfn : Tryz.pinned.checked.prog.funcs[f]? = some fn) :
    true = Tryz.pinned.checked.prog.looks [] ∧ ∀ (j : Nat) t, fn.params[j]? = some t → Tryz.pinned.checked.prog.wantsStandIn t = false := by
 obtain rfl : f = 6 := Option.some.inj (found.symm.trans hf) |>.symm
 obtain rfl : fn = Tryz.f6 := (Option.some.inj (Tryz.func6.symm.trans hfn)).symm
 refine ⟨by kernel_rfl, fun j t ht => ?_⟩
 rw [Tryz.params6] at ht
 have hm : t ∈ ([27, 28] : List TypeId) := by simpa using Array.mem_of_getElem? ht
 have hall : (([27, 28] : List TypeId).all fun u => !Tryz.prog.wantsStandIn u) = true := by kernel_rfl
 exact (show Tryz.prog.wantsStandIn t = false by simpa using List.all_eq_true.1 hall t hm)

theorem card : Rows.LowerAgainCardSaid :=
 Claim7.holds_tied_plain_at .later [] _ _ _ _ said (fun _ h => by cases h) (by kernel_rfl) (fun _ h => by cases h) lowerAgain_row_tie rfl ⟨rfl, rfl⟩ (by kernel_rfl) rfl plain (by kernel_rfl)
#print axioms card

end LawLowerAgain
end Go.Proofs.YtdpjbnjlognmeaaGreatDoor
