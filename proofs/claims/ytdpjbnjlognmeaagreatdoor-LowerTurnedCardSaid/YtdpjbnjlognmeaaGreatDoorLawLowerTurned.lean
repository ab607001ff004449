/- 'LowerTurned': a message that is turned in its names, places, scales, ranges and takers alone comes to the same: the statement holds of every input. No condition beyond the card's own: the listed variables hold what the program's text lays. -/
import Derived.Test.YtdpjbnjlognmeaaGreatDoorFrame
import Derived.Test.YtdpjbnjlognmeaaGreatDoorDoor1
import Derived.Test.YtdpjbnjlognmeaaGreatDoorFactLowerTurned
import Derived.Test.YtdpjbnjlognmeaaGreatDoorLyM
import Derived.Test.YtdpjbnjlognmeaaGreatDoorOpM
import Derived.Test.YtdpjbnjlognmeaaGreatDoorOpen5
import Derived.Deep.Cut
import Derived.Deep.RegionHeld3
namespace Go.Proofs.YtdpjbnjlognmeaaGreatDoor
open Go.ChangeShapes Go.WideShapes Go.ChangeAt Go.RowKit Go.Proofs.YtdpjbnjlognmeaaGreatDoor.Code

namespace LawLowerTurned

attribute [local go_sem ↓] Go.wp_at_zero Go.wp_at_succ


set_option maxRecDepth 100000 in
set_option maxHeartbeats 25600000 in
theorem law (m0 : B.Msg) (sa0 : Option Addr) (sn0 sc0 : Nat) (pa1 : Option Addr) (pn1 pc1 : Nat) (pay1 : List Nat) (ia2 : Option Addr) (im2 ic2 : Nat) (inp2 : List Nat) (w : World) (hs0 : SigsAt w sa0 sn0 m0.sigs) (hsl0 : sn0 ≤ 9223372036854775807) (hm0 : MsgWf m0) (hy1 : ListAt w pa1 pn1 (pay1.map u8V)) (hb1 : B.Bytes pay1) (hyn1 : pa1 = none → pc1 = 0) (hyl1 : pn1 ≤ 9223372036854775807) (hu2 : ListAt w ia2 im2 (inp2.map u64V)) (hw2 : B.Words inp2) (hun2 : ia2 = none → ic2 = 0) (hul2 : im2 ≤ 9223372036854775807) (hR : LReady w) :
    Calls Tryz.prog 3 #[.agg (msgC m0 (.slice sa0 sn0 sc0)), .slice pa1 pn1 pc1, .slice ia2 im2 ic2] w (BoolOut true w) := by
 have hn := hs0.len
 have HM := Lib.hid hm0
 have HS := Lib.hid hs0
 have HYL := Lib.hid hyl1
 have HY := Lib.hid hy1
 have HBY := Lib.hid hb1
 have HUL := Lib.hid hul2
 have HV := Lib.hid hu2
 have HWI := Lib.hid hw2
 have hbox := RC.new (msgC m0 (.slice sa0 sn0 sc0)) 27 w (n := 8) rfl rfl
 have hbel : Below w.heap.size w (w.alloc (.cells (msgC m0 (.slice sa0 sn0 sc0)) 27)) := (Below.refl _ _).alloc (Nat.le_refl _) _
 obtain ⟨w1, hw1⟩ : ∃ w1, w.alloc (.cells (msgC m0 (.slice sa0 sn0 sc0)) 27) = w1 := ⟨_, rfl⟩
 rw [hw1] at hbox hbel
 have HU := Lib.hid (hR.utf8.below hbel (Nat.le_refl _))
 have HT := Lib.hid (hR.tabs.below hbel (Nat.le_refl _))
 have HBOX := Lib.hid hbox
 have HB := Lib.hid hbel
 have HN := Lib.hid hn
 clear hs0 hm0 hy1 hb1 hyn1 hyl1 hu2 hw2 hun2 hul2 hR hbox hbel hn hsl0
 go_enter Tryz.func3, Tryz.ntmps3
 go_upto_region 1 with fail
 try rw [hw1]
 clear hw1
 go_upto_region 3 with (go_at_call 7; refine (works15_any _ HU.out HT.out).mono ?_; rintro e w2 ⟨rfl, hb2⟩)
 have hbox2 := HBOX.out.below hb2 HBOX.out.blk
 have hrr2 := RC.range hbox2
 have HB2 := Lib.hid (HB.out.trans (hb2.mono HB.out.size))
 have HU2 := Lib.hid (HU.out.below hb2 (Nat.le_refl _))
 have HT2 := Lib.hid (HT.out.below hb2 (Nat.le_refl _))
 have HBOX2 := Lib.hid hbox2
 have hmsg := message_any apart_any m0 sa0 sn0 sc0 w2 HM.out (HS.out.below HB2.out (Nat.le_refl _)) HU2.out
 unfold ErrOut errL at hmsg
 clear hb2 hbox2 HBOX HB HU HT
 rcases Classical.em (m0.no.1 = 0) with h0 | h0
 case' inr =>
  rw [if_neg h0] at hmsg
  clear h0
  go_wp2_with (first
   | refine wpList_load_mid (by rfl) 27 _ (by rfl) w.heap.size 0 (by rfl) (msgC m0 (.slice sa0 sn0 sc0)).toList _ hrr2 Tryz.underlying27 (by rfl) (by kernel_rfl) ?_
   | (go_at_call 8; refine hmsg.mono ?_; rintro e w3 ⟨rfl, hb3⟩))
  go_ret
  exact ⟨rfl, HB2.out.trans (hb3.mono HB2.out.size)⟩
 rw [if_pos h0] at hmsg
 have hok := HM.out.ok h0
 have hn64 : sn0 ≤ 64 := by rw [HN.out]; exact hok.count
 obtain ⟨z, hz⟩ : ∃ z : Nat, m0.size = (z : Int) := ⟨m0.size.toNat, by have := hok.size; omega⟩
 have hz8 : z ≤ 8 := by have := hok.size; omega
 have HZ := Lib.hid hz
 have HOK := Lib.hid hok
 have H0 := Lib.hid h0
 have hplen : (B.padL pay1 z).length = m0.size.toNat := by rw [B.padL_len, hz]; rfl
 obtain ⟨s2, n2, e2, hy2, h2h, h2l, h2v⟩ := B.again_run hok (pay := B.padL pay1 z) hplen (List.replicate m0.sigs.length 77)
 have h2n : s2.out.length = sn0 := by rw [HN.out]; exact h2l
 have h2m : s2.has.length = sn0 := by rw [HN.out, h2h]; simp [B.Msg.actives]
 have HE2 := Lib.hid e2
 have H2N := Lib.hid h2n
 have H2M := Lib.hid h2m
 have HDE := Lib.hid (B.dest_le h0)
 have HTO := Lib.hid (B.turned_ok h0)
 clear e2 hy2 h2h h2l h2v hplen h2n h2m
 clear h0 hz hok
 go_upto_region 5 with (first
  | refine wpList_load_mid (by rfl) 27 _ (by rfl) w.heap.size 0 (by rfl) (msgC m0 (.slice sa0 sn0 sc0)).toList _ hrr2 Tryz.underlying27 (by rfl) (by kernel_rfl) ?_
  | (go_at_call 8; refine hmsg.mono ?_; rintro e w3 ⟨rfl, hb3⟩))
 have hrr3 := RC.range (HBOX2.out.below hb3 HBOX2.out.blk)
 have HB3 := Lib.hid (HB2.out.trans (hb3.mono HB2.out.size))
 have HBOX3 := Lib.hid (HBOX2.out.below hb3 HBOX2.out.blk)
 have HU3 := Lib.hid (HU2.out.below hb3 (Nat.le_refl _))
 have HT3 := Lib.hid (HT2.out.below hb3 (Nat.le_refl _))
 clear hb3 hrr2 hmsg HBOX2 HU2 HT2 HB2
 have hcopy : Calls Tryz.prog 9 #[.agg (msgC m0 (.slice sa0 sn0 sc0))] w3 (MsOutN m0 sn0 w3) := (copyMessage_any m0 sa0 sn0 sc0 w3 (HS.out.below HB3.out (Nat.le_refl _)) hn64 HDE.out).mono (fun e w' h => h.atN HN.out.symm)
 go_upto_region 6 with (first
  | refine wpList_load_mid (by rfl) 27 _ (by rfl) w.heap.size 0 (by rfl) (msgC m0 (.slice sa0 sn0 sc0)).toList _ hrr3 Tryz.underlying27 (by rfl) (by kernel_rfl) ?_
  | (go_at_call 9; refine hcopy.mono ?_; rintro e w4 ⟨ca, cc, L, rfl, hown4, hLm, hb4⟩)
  | (refine wpList_store_mid (by rfl) 27 _ _ (by rfl) w4.heap.size 0 (msgC m0 (.slice ca sn0 cc)) (by rfl) (by rfl) (there_alloc _ _ _ (by rfl)) (by kernel_rfl) (by simp [msgC, Value.oneCell']) ?_; generalize hw5 : World.setCells _ _ _ _ = w5))
 have hb5 : Below w4.heap.size w4 w5 := by
  rw [← hw5]
  exact ((Below.refl _ _).alloc (Nat.le_refl _) _).grown (grownBy_setCells _ _ _ _) (by simp) (fun k hk => by cases hk; exact Nat.le_refl _)
 have hrow5 : RC w5 w4.heap.size 27 8 (msgC m0 (.slice ca sn0 cc)) := by rw [← hw5]; exact RC.over _ _ _ _ (by rfl) rfl
 obtain ⟨X, hX⟩ : ∃ X, w4.heap.size = X := ⟨_, rfl⟩
 have hle3 : w3.heap.size ≤ X := by rw [← hX]; exact hb4.size
 have hb35 : Below w3.heap.size w3 w5 := hb4.trans (hb5.mono hb4.size)
 have hown5 := hown4.kept hb5
 rw [hX] at hrow5 ⊢
 have j4 : w5.cell? ⟨X, 4, none⟩ = some (.string m0.name) := hrow5.cell (j := 4) rfl
 have f4 : w5.frozen? ⟨X, 4, none⟩ = false := CellsAt.free hrow5.1 4
 have HROW5 := Lib.hid hrow5
 have HOWN5 := Lib.hid hown5
 have HB35 := Lib.hid hb35
 have HLM := Lib.hid hLm
 clear hw5 hb5 hrow5 hX hb35 hown5 hown4 hLm hb4 hcopy hrr3
 go_upto_region 7 with fail
 have hrow6 : RC (w5.setCell ⟨X, 4, none⟩ (.string ⟨#[79, 116, 104, 101, 114]⟩)) X 27 8 #[.int .i64 m0.line, .int .i64 m0.col, .int .u32 m0.id, .bool m0.wide, .string ⟨#[79, 116, 104, 101, 114]⟩, .int .i64 m0.size, .string m0.sender, .slice ca sn0 cc] := HROW5.out.putL 4 _ rfl (fun j hj => by
  match j, hj with
  | 0, _ => rfl
  | 1, _ => rfl
  | 2, _ => rfl
  | 3, _ => rfl
  | 4, _ => rfl
  | 5, _ => rfl
  | 6, _ => rfl
  | 7, _ => rfl
  | n + 8, h => omega)
 have hg6 := grownBy_setCells X [.string ⟨#[79, 116, 104, 101, 114]⟩] 4 w5
 obtain ⟨w6, hw6⟩ : ∃ w6, w5.setCell ⟨X, 4, none⟩ (.string ⟨#[79, 116, 104, 101, 114]⟩) = w6 := ⟨_, rfl⟩
 replace hg6 : w5.grownBy w6 (some X) := by rw [← hw6]; exact hg6
 rw [hw6] at hrow6 ⊢
 have j2 : w6.cell? ⟨X, 2, none⟩ = some (.int .u32 m0.id) := hrow6.cell (j := 2) rfl
 have f2 : w6.frozen? ⟨X, 2, none⟩ = false := CellsAt.free hrow6.1 2
 have HROW6 := Lib.hid hrow6
 have HG6 := Lib.hid hg6
 clear hw6 hg6 hrow6 j4 f4
 go_upto_region 8 with fail
 have hrow7 : RC (w6.setCell ⟨X, 2, none⟩ (.int .u32 3)) X 27 8 #[.int .i64 m0.line, .int .i64 m0.col, .int .u32 3, .bool m0.wide, .string ⟨#[79, 116, 104, 101, 114]⟩, .int .i64 m0.size, .string m0.sender, .slice ca sn0 cc] := HROW6.out.putL 2 _ rfl (fun j hj => by
  match j, hj with
  | 0, _ => rfl
  | 1, _ => rfl
  | 2, _ => rfl
  | 3, _ => rfl
  | 4, _ => rfl
  | 5, _ => rfl
  | 6, _ => rfl
  | 7, _ => rfl
  | n + 8, h => omega)
 have hg7 := grownBy_setCells X [.int .u32 3] 2 w6
 obtain ⟨w7, hw7⟩ : ∃ w7, w6.setCell ⟨X, 2, none⟩ (.int .u32 3) = w7 := ⟨_, rfl⟩
 replace hg7 : w6.grownBy w7 (some X) := by rw [← hw7]; exact hg7
 rw [hw7] at hrow7 ⊢
 have ht7 : w7.there X 0 2 := CellsAt.there hrow7.1 (by omega)
 have HROW7 := Lib.hid hrow7
 have HG7 := Lib.hid (HG6.out.trans hg7)
 clear hw7 hg7 hrow7 j2 f2
 go_upto_region 9 with (refine wpList_store_mid (by rfl) 23 _ _ (by rfl) X 0 #[.int .i64 9, .int .i64 9] (by rfl) (by rfl) ht7 (by kernel_rfl) (by simp [Value.oneCell']) ?_; generalize hw8 : World.setCells _ _ _ _ = w8)
 have hrow8 : RC w8 X 27 8 (turnC m0 (.slice ca sn0 cc)) := by
  rw [← hw8]
  exact HROW7.out.puts _ 0 rfl (fun j hj => by
   match j, hj with
   | 0, _ => rfl
   | 1, _ => rfl
   | 2, _ => rfl
   | 3, _ => rfl
   | 4, _ => rfl
   | 5, _ => rfl
   | 6, _ => rfl
   | 7, _ => rfl
   | n + 8, h => omega)
 have hg8 : w5.grownBy w8 (some X) := HG7.out.trans (by rw [← hw8]; exact grownBy_setCells _ _ _ _)
 have hm5 : ∃ C, w5.heap[X]? = some (.cells C 27 (0, 0)) := by
  obtain ⟨C, hC, _⟩ := HROW5.out.1
  exact ⟨C, hC⟩
 have HT8 : Hid (TnAt m0 ca sn0 cc X 0 w3 w8) := Lib.hid (by
  obtain ⟨C, hC⟩ := hm5
  exact ⟨L, ⟨HOWN5.out.grownT hC (by decide) (by decide) hg8, hrow8, HB35.out.grown hg8 HB35.out.size (fun k hk => by cases hk; exact hle3), hle3⟩, by rw [B.turnTo_zero]; exact HLM.out⟩)
 clear hw8 hrow8 hg8 hm5 ht7 HROW5 HROW6 HROW7 HG6 HG7 HOWN5 HB35 HLM
 go_wp2_with fail
 go_loopw [8] (fun i wr => ∃ k : Nat, k ≤ sn0 ∧ i = .int .i64 (k : Int) ∧ Hid (TnAt m0 ca sn0 cc X k w3 wr)) (fun i _ => sn0 - (intOf i).toNat)
 case atStart => exact ⟨0, by omega, rfl, HT8⟩
 case round =>
  obtain ⟨k, hk, rfl, HTK⟩ := hrel
  clear HT8
  by_cases hlt : k < sn0
  ·have e1 : ((k : Int) < sn0) = True := by simp; omega
   have hx : m0.sigs[k]? = some (m0.sigs[k]'(by have := HN.out; omega)) := List.getElem?_eq_getElem _
   generalize m0.sigs[k]'(by have := HN.out; omega) = s at hx
   obtain ⟨g, L, tv, rfl, hmid, hLm, hp⟩ := TnAt.here HTK.out hx
   have hkL : k < L.length := (List.getElem?_eq_some_iff.1 hp).1
   have HX := Lib.hid hx
   have HLM := Lib.hid hLm
   have HP := Lib.hid hp
   have HM0 := Lib.hid hmid
   have kx : wr.cell? ⟨X, 7, none⟩ = some (.slice (some ⟨g, 0, none⟩) sn0 cc) := hmid.box.cell (j := 7) rfl
   have u1 := (name_u8 k (by omega) (k / 8) (by omega)).1
   have u2 := (name_u8 k (by omega) (k % 8) (by omega)).1
   rw [show ((k / 8 : Nat) : Int) = (k : Int) / 8 from rfl] at u1
   rw [show ((k % 8 : Nat) : Int) = (k : Int) % 8 from rfl] at u2
   have hcv := name_conv k (by omega) wr
   have hma := HM0.out.alloc (.cells #[.int .u8 (97 + (k : Int) / 8), .int .u8 (97 + (k : Int) % 8)] 5)
   have c2 : (wr.alloc (.cells #[.int .u8 (97 + (k : Int) / 8), .int .u8 (97 + (k : Int) % 8)] 5)).cell? ⟨g, k * 19 + 2, none⟩ = some (.string s.name) := hma.own.cell HP.out (j := 2) (by omega)
   have f2 : (wr.alloc (.cells #[.int .u8 (97 + (k : Int) / 8), .int .u8 (97 + (k : Int) % 8)] 5)).frozen? ⟨g, k * 19 + 2, none⟩ = false := hma.own.free _
   have q0 : (0 : Int) ≤ (k : Int) := by omega
   have q1 : (k : Int) < sn0 := by omega
   have HMA := Lib.hid hma
   clear hx hp hLm hmid hma
   go_upto_region 13 with fail
   clear hcv c2 f2 u1 u2 kx
   have hm1 := HMA.out.put (HMA.out.own.tName HP.out (B.turnName k))
   have hp1 := set_get (l := L) ({ s with name := B.turnName k }, tv) hkL
   have hkL1 : k < (L.set k ({ s with name := B.turnName k }, tv)).length := by simpa using hkL
   obtain ⟨v1, hv1⟩ : ∃ v, (wr.alloc (.cells #[.int .u8 (97 + (k : Int) / 8), .int .u8 (97 + (k : Int) % 8)] 5)).setCell ⟨g, k * 19 + 2, none⟩ (.string (B.turnName k)) = v := ⟨_, rfl⟩
   obtain ⟨s1, hs1⟩ : ∃ sq : B.Sig, { s with name := B.turnName k } = sq := ⟨_, rfl⟩
   rw [hs1] at hm1 hp1 hkL1
   obtain ⟨L1, hL1⟩ : ∃ L', L.set k (s1, tv) = L' := ⟨_, rfl⟩
   rw [hL1] at hm1 hp1 hkL1
   rw [hv1] at hm1 ⊢
   have HL1 := Lib.hid hL1
   have HS1 := Lib.hid hs1
   clear hv1 hL1 hs1 HMA
   have ht2 : v1.there g (k * 19 + 9) 2 := hm1.own.there hp1 (f := 9) (m := 2) (by omega)
   have kx : v1.cell? ⟨X, 7, none⟩ = some (.slice (some ⟨g, 0, none⟩) sn0 cc) := hm1.box.cell (j := 7) rfl
   have HM1 := Lib.hid hm1
   have HP1 := Lib.hid hp1
   clear hm1 hp1
   go_upto_region 14 with (refine wpList_store_mid (by rfl) 37 _ _ (by rfl) g (k * 19 + 9) #[.int .i64 (-3), .int .i64 7] (by rfl) (by rfl) ht2 (by kernel_rfl) (by simp [Value.oneCell']) ?_; generalize hv2 : World.setCells _ _ _ _ = v2)
   have hm2 := HM1.out.step (w' := v2) (by rw [← hv2]; exact grownBy_setCells _ _ _ _) (by rw [← hv2]; exact HM1.out.own.tScale HP1.out)
   have hp2 := set_get (l := L1) ({ s1 with scale := ⟨-3, 7⟩ }, tv) hkL1
   have hkL2 : k < (L1.set k ({ s1 with scale := ⟨-3, 7⟩ }, tv)).length := by simpa using hkL1
   obtain ⟨s2, hs2⟩ : ∃ sq : B.Sig, { s1 with scale := ⟨-3, 7⟩ } = sq := ⟨_, rfl⟩
   rw [hs2] at hm2 hp2 hkL2
   obtain ⟨L2, hL2⟩ : ∃ L', L1.set k (s2, tv) = L' := ⟨_, rfl⟩
   rw [hL2] at hm2 hp2 hkL2
   have HL2 := Lib.hid hL2
   have HS2 := Lib.hid hs2
   clear hv2 hL2 hs2 ht2 kx HM1 HP1
   have ht3 : v2.there g (k * 19 + 13) 2 := hm2.own.there hp2 (f := 13) (m := 2) (by omega)
   have kx : v2.cell? ⟨X, 7, none⟩ = some (.slice (some ⟨g, 0, none⟩) sn0 cc) := hm2.box.cell (j := 7) rfl
   have HM2 := Lib.hid hm2
   have HP2 := Lib.hid hp2
   clear hm2 hp2
   go_upto_region 15 with (refine wpList_store_mid (by rfl) 37 _ _ (by rfl) g (k * 19 + 13) #[.int .i64 5, .int .i64 1] (by rfl) (by rfl) ht3 (by kernel_rfl) (by simp [Value.oneCell']) ?_; generalize hv3 : World.setCells _ _ _ _ = v3)
   have hm3 := HM2.out.step (w' := v3) (by rw [← hv3]; exact grownBy_setCells _ _ _ _) (by rw [← hv3]; exact HM2.out.own.tMin HP2.out)
   have hp3 := set_get (l := L2) ({ s2 with min := ⟨5, 1⟩ }, tv) hkL2
   have hkL3 : k < (L2.set k ({ s2 with min := ⟨5, 1⟩ }, tv)).length := by simpa using hkL2
   obtain ⟨s3, hs3⟩ : ∃ sq : B.Sig, { s2 with min := ⟨5, 1⟩ } = sq := ⟨_, rfl⟩
   rw [hs3] at hm3 hp3 hkL3
   obtain ⟨L3, hL3⟩ : ∃ L', L2.set k (s3, tv) = L' := ⟨_, rfl⟩
   rw [hL3] at hm3 hp3 hkL3
   have HL3 := Lib.hid hL3
   have HS3 := Lib.hid hs3
   clear hv3 hL3 hs3 ht3 kx HM2 HP2
   have ht4 : v3.there g (k * 19 + 15) 2 := hm3.own.there hp3 (f := 15) (m := 2) (by omega)
   have kx : v3.cell? ⟨X, 7, none⟩ = some (.slice (some ⟨g, 0, none⟩) sn0 cc) := hm3.box.cell (j := 7) rfl
   have HM3 := Lib.hid hm3
   have HP3 := Lib.hid hp3
   clear hm3 hp3
   go_upto_region 16 with (refine wpList_store_mid (by rfl) 37 _ _ (by rfl) g (k * 19 + 15) #[.int .i64 5, .int .i64 1] (by rfl) (by rfl) ht4 (by kernel_rfl) (by simp [Value.oneCell']) ?_; generalize hv4 : World.setCells _ _ _ _ = v4)
   have hm4 := HM3.out.step (w' := v4) (by rw [← hv4]; exact grownBy_setCells _ _ _ _) (by rw [← hv4]; exact HM3.out.own.tMax HP3.out)
   have hp4 := set_get (l := L3) ({ s3 with max := ⟨5, 1⟩ }, tv) hkL3
   have hkL4 : k < (L3.set k ({ s3 with max := ⟨5, 1⟩ }, tv)).length := by simpa using hkL3
   obtain ⟨s4, hs4⟩ : ∃ sq : B.Sig, { s3 with max := ⟨5, 1⟩ } = sq := ⟨_, rfl⟩
   rw [hs4] at hm4 hp4 hkL4
   obtain ⟨L4, hL4⟩ : ∃ L', L3.set k (s4, tv) = L' := ⟨_, rfl⟩
   rw [hL4] at hm4 hp4 hkL4
   have HL4 := Lib.hid hL4
   have HS4 := Lib.hid hs4
   clear hv4 hL4 hs4 ht4 kx HM3 HP3
   have kx : v4.cell? ⟨X, 7, none⟩ = some (.slice (some ⟨g, 0, none⟩) sn0 cc) := hm4.box.cell (j := 7) rfl
   have c17 : v4.cell? ⟨g, k * 19 + 17, none⟩ = some (.string s4.unit) := hm4.own.cell hp4 (j := 17) (by omega)
   have f17 : v4.frozen? ⟨g, k * 19 + 17, none⟩ = false := hm4.own.free _
   have HM4 := Lib.hid hm4
   have HP4 := Lib.hid hp4
   clear hm4 hp4
   go_upto_region 17 with fail
   clear kx c17 f17
   have hm5 := HM4.out.put (HM4.out.own.tUnit HP4.out ⟨#[63]⟩)
   have hp5 := set_get (l := L4) ({ s4 with unit := ⟨#[63]⟩ }, tv) hkL4
   have hkL5 : k < (L4.set k ({ s4 with unit := ⟨#[63]⟩ }, tv)).length := by simpa using hkL4
   obtain ⟨v5, hv5⟩ : ∃ v, v4.setCell ⟨g, k * 19 + 17, none⟩ (.string ⟨#[63]⟩) = v := ⟨_, rfl⟩
   obtain ⟨s5, hs5⟩ : ∃ sq : B.Sig, { s4 with unit := ⟨#[63]⟩ } = sq := ⟨_, rfl⟩
   rw [hs5] at hm5 hp5 hkL5
   obtain ⟨L5, hL5⟩ : ∃ L', L4.set k (s5, tv) = L' := ⟨_, rfl⟩
   rw [hL5] at hm5 hp5 hkL5
   rw [hv5] at hm5 ⊢
   have HL5 := Lib.hid hL5
   have HS5 := Lib.hid hs5
   have kx : v5.cell? ⟨X, 7, none⟩ = some (.slice (some ⟨g, 0, none⟩) sn0 cc) := hm5.box.cell (j := 7) rfl
   have hma := hm5.alloc (.cells #[.string ⟨#[90]⟩] 9)
   have c18 : (v5.alloc (.cells #[.string ⟨#[90]⟩] 9)).cell? ⟨g, k * 19 + 18, none⟩ = some tv := hma.own.cell hp5 (j := 18) (by omega)
   have f18 : (v5.alloc (.cells #[.string ⟨#[90]⟩] 9)).frozen? ⟨g, k * 19 + 18, none⟩ = false := hma.own.free _
   have HMA := Lib.hid hma
   have HP5 := Lib.hid hp5
   clear hv5 hL5 hs5 HM4 HP4 hm5 hma hp5
   go_wp2_with fail
   have hm6 := HMA.out.put (HMA.out.own.tTo HP5.out [⟨#[90]⟩] (.slice (some ⟨v5.heap.size, 0, none⟩) 1 1) (toAt_one (heap_alloc_new v5 _)))
   have HNX : Hid (TnAt m0 (some ⟨g, 0, none⟩) sn0 cc X (k + 1) w3 ((v5.alloc (.cells #[.string ⟨#[90]⟩] 9)).setCell ⟨g, k * 19 + 18, none⟩ (.slice (some ⟨v5.heap.size, 0, none⟩) 1 1))) := Lib.hid (TnAt.next (tv := .slice (some ⟨v5.heap.size, 0, none⟩) 1 1) HX.out HLM.out hm6 (by
    rw [← HL5.out, ← HL4.out, ← HL3.out, ← HL2.out, ← HL1.out, ← HS5.out, ← HS4.out, ← HS3.out, ← HS2.out, ← HS1.out]
    simp only [List.set_set]
    rfl))
   clear hm6 kx c18 f18
   go_roundw
   case rel => exact ⟨k + 1, by omega, by go_num, HNX⟩
   case measure => simp [intOf]; omega
  ·obtain rfl : sn0 = k := by omega
   have e1 : ((sn0 : Int) < sn0) = False := by simp
   obtain ⟨L, hmid, _⟩ := HTK.out
   have kx : wr.cell? ⟨X, 7, none⟩ = some (.slice ca sn0 cc) := hmid.box.cell (j := 7) rfl
   have hbw : Below w.heap.size w wr := HB3.out.trans (hmid.bel.mono HB3.out.size)
   have HBW := Lib.hid hbw
   have hboxw := HBOX3.out.below hmid.bel HBOX3.out.blk
   have HBOXW := Lib.hid hboxw
   have HTRN := Lib.hid hmid.box
   have HUW := Lib.hid (HU3.out.below hmid.bel (Nat.le_refl _))
   have HTW := Lib.hid (HT3.out.below hmid.bel (Nat.le_refl _))
   have HSX : Hid (SigsAt wr ca sn0 m0.turned.sigs) := Lib.hid (by
    have h := HTK.out
    rw [HN.out] at h ⊢
    exact h.sigs)
   have hrrw := RC.range hboxw
   have hslots := slots_any m0 sa0 ia2 sn0 sc0 im2 ic2 inp2 wr hn64 (HV.out.below hbw (Nat.le_refl _)) HUL.out
   rw [slotsV_pad] at hslots
   clear hmid hbw hboxw HTK
   go_upto_region 19 with (first
    | refine wpList_load_mid (by rfl) 27 _ (by rfl) w.heap.size 0 (by rfl) (msgC m0 (.slice sa0 sn0 sc0)).toList _ hrrw Tryz.underlying27 (by rfl) (by kernel_rfl) ?_
    | (go_at_call 10; refine hslots.mono ?_; rintro e w9 ⟨va, vc, rfl, hown9, hb9⟩))
   have HB9 := Lib.hid (HBW.out.trans (hb9.mono HBW.out.size))
   have HBXM1 := Lib.hid (HBOXW.out.below hb9 HBOXW.out.blk)
   have HTRN1 := Lib.hid (HTRN.out.below hb9 HTRN.out.blk)
   have HU9 := Lib.hid (HUW.out.below hb9 (Nat.le_refl _))
   have HT9 := Lib.hid (HTW.out.below hb9 (Nat.le_refl _))
   have HSX9 := Lib.hid (HSX.out.below hb9 (Nat.le_refl _))
   have HVA := Lib.hid (ListAt.ofOwn hown9.own)
   have HBX1 : Hid (Below w9.heap.size w9 w9) := Lib.hid (Below.refl _ _)
   have HSIZED : Hid (∀ wy, Below w9.heap.size w9 wy → Calls Tryz.prog 12 #[.agg (msgC m0 (.slice sa0 sn0 sc0)), .slice pa1 pn1 pc1] wy (SizedOut z ((B.padL pay1 z).map u8V) wy)) := Lib.hid (fun wy hb => by
    rw [← sizedV_pad]
    exact sized_any m0 (.slice sa0 sn0 sc0) pa1 z pn1 pc1 pay1 wy (by omega) HZ.out (HY.out.below (HB9.out.trans (hb.mono HB9.out.size)) (Nat.le_refl _)) HYL.out)
   obtain ⟨r, hr⟩ : ∃ r, B.run m0.packI (B.padL inp2 sn0) 0 (B.start (B.padL pay1 z) m0.sigs.length) = r := ⟨_, rfl⟩
   obtain ⟨rq, hq⟩ : ∃ q, B.run m0.unpackI (List.replicate m0.sigs.length 77) 0 (B.start (B.padL pay1 z) m0.sigs.length) = q := ⟨_, rfl⟩
   have HPK1 : Hid (∀ wy qa qc, Below w9.heap.size w9 wy → ListAt wy qa z ((B.padL pay1 z).map u8V) → Calls Tryz.prog 11 #[.agg (msgC m0 (.slice sa0 sn0 sc0)), .slice qa z qc, .slice va sn0 vc] wy (RanUni r wy)) := Lib.hid (fun wy qa qc hb hl => by
    rw [← hr]
    exact packed_ok m0 sa0 qa va sn0 sc0 z qc sn0 vc (B.padL pay1 z) (B.padL inp2 sn0) wy HM.out (HS.out.below (HB9.out.trans (hb.mono HB9.out.size)) (Nat.le_refl _)) (HU9.out.below hb (Nat.le_refl _)) (HT9.out.below hb (Nat.le_refl _)) H0.out HZ.out.symm rfl hl (HVA.out.below hb (Nat.le_refl _)) (B.padL_bytes HBY.out z) (B.padL_words HWI.out sn0))
   have HPK2 : Hid (∀ wy qa qc, Below w9.heap.size w9 wy → ListAt wy qa z ((B.padL pay1 z).map u8V) → Calls Tryz.prog 11 #[.agg (turnC m0 (.slice ca sn0 cc)), .slice qa z qc, .slice va sn0 vc] wy (RanUni r wy)) := Lib.hid (fun wy qa qc hb hl => by
    have h := packed_ok m0.turned ca qa va sn0 cc z qc sn0 vc (B.padL pay1 z) (B.padL inp2 sn0) wy (wf_turned HM.out) (HSX9.out.below hb (Nat.le_refl _)) (HU9.out.below hb (Nat.le_refl _)) (HT9.out.below hb (Nat.le_refl _)) (by rw [HTO.out]) HZ.out.symm rfl hl (HVA.out.below hb (Nat.le_refl _)) (B.padL_bytes HBY.out z) (B.padL_words HWI.out sn0)
    rw [B.turned_pack, B.turned_len, hr, ← turnC_eq] at h
    exact h)
   have HUN1 : Hid (∀ wy qa qc, Below w9.heap.size w9 wy → ListAt wy qa z ((B.padL pay1 z).map u8V) → Calls Tryz.prog 13 #[.agg (msgC m0 (.slice sa0 sn0 sc0)), .slice qa z qc] wy (RanUni rq wy)) := Lib.hid (fun wy qa qc hb hl => by
    rw [← hq]
    exact unpacked_ok m0 sa0 qa sn0 sc0 z qc (B.padL pay1 z) wy HM.out (HS.out.below (HB9.out.trans (hb.mono HB9.out.size)) (Nat.le_refl _)) (HU9.out.below hb (Nat.le_refl _)) (HT9.out.below hb (Nat.le_refl _)) H0.out HZ.out.symm hl (B.padL_bytes HBY.out z))
   have HUN2 : Hid (∀ wy qa qc, Below w9.heap.size w9 wy → ListAt wy qa z ((B.padL pay1 z).map u8V) → Calls Tryz.prog 13 #[.agg (turnC m0 (.slice ca sn0 cc)), .slice qa z qc] wy (RanUni rq wy)) := Lib.hid (fun wy qa qc hb hl => by
    have h := unpacked_ok m0.turned ca qa sn0 cc z qc (B.padL pay1 z) wy (wf_turned HM.out) (HSX9.out.below hb (Nat.le_refl _)) (HU9.out.below hb (Nat.le_refl _)) (HT9.out.below hb (Nat.le_refl _)) (by rw [HTO.out]) HZ.out.symm hl (B.padL_bytes HBY.out z)
    rw [B.turned_unpack, B.turned_len, hq, ← turnC_eq] at h
    exact h)
   have HQ := Lib.hid (hq.symm.trans HE2.out)
   clear hr hq hown9 hb9 hrrw hslots kx HBOXW HTRN HUW HTW HSX HBW
   have HSZ1 := Lib.hid (fun wy (h : Below w9.heap.size w9 wy) => HSIZED.out wy (HBX1.out.trans (h.mono HBX1.out.size)))
   have HPX1 := Lib.hid (fun wy qa qc (h : Below w9.heap.size w9 wy) (hq : ListAt wy qa z ((B.padL pay1 z).map u8V)) => HPK1.out wy qa qc (HBX1.out.trans (h.mono HBX1.out.size)) hq)
   go_cut [10, 11] from 83 to 91 (fun p q wx => ∃ Y : Nat, p = .pointer (some ⟨Y, 0, none⟩) ∧ q = .bool true ∧ RanBox r Y w9 wx)
   case first =>
    refine wp_region_held_drew (S := Below w9.heap.size w9) (by kernel_rfl) (Below.refl _ _).drew (fun hS1 => ?_)
    refine take_slot (i := 0) (d := 84) (v := .agg (msgC m0 (.slice sa0 sn0 sc0))) rfl rfl (by kernel_rfl) (by kernel_rfl) (by kernel_rfl) (fun _ _ _ h => h) (yieldsIf_load_mid (by rfl) 27 (.tmp 3) rfl w.heap.size 0 rfl ((msgC m0 (.slice sa0 sn0 sc0)) : Array Value).toList _ (fun w' h => RC.range (HBXM1.out.below h HBXM1.out.blk)) Tryz.underlying27 rfl (by kernel_rfl)) hS1 ?_
    try simp only [Act.put, List.setIfInBounds_toArray, List.set_cons_zero, List.set_cons_succ]
    refine take_slot (i := 1) (d := 85) (v := .agg (msgC m0 (.slice sa0 sn0 sc0))) rfl rfl (by kernel_rfl) (by kernel_rfl) (by kernel_rfl) (fun _ _ _ h => h) (yieldsIf_load_mid (by rfl) 27 (.tmp 3) rfl w.heap.size 0 rfl ((msgC m0 (.slice sa0 sn0 sc0)) : Array Value).toList _ (fun w' h => RC.range (HBXM1.out.below h HBXM1.out.blk)) Tryz.underlying27 rfl (by kernel_rfl)) hS1 ?_
    try simp only [Act.put, List.setIfInBounds_toArray, List.set_cons_zero, List.set_cons_succ]
    refine take_slot (i := 2) (d := 86) (v := .slice pa1 pn1 pc1) rfl rfl (by kernel_rfl) (by kernel_rfl) (by kernel_rfl) (fun _ _ _ h => h) (Or.inl ⟨by rfl, fun w' h => by go_simp⟩) hS1 ?_
    try simp only [Act.put, List.setIfInBounds_toArray, List.set_cons_zero, List.set_cons_succ]
    refine take_slot (i := 4) (d := 88) (v := .slice va sn0 vc) rfl rfl (by kernel_rfl) (by kernel_rfl) (by kernel_rfl) (fun _ _ _ h => h) (Or.inl ⟨by rfl, fun w' h => by go_simp⟩) hS1 ?_
    try simp only [Act.put, List.setIfInBounds_toArray, List.set_cons_zero, List.set_cons_succ]
    refine wpAnyH_ready (rs := [3, 9]) (by kernel_rfl) (by simp) ?_
    refine AllReadyH.cons rfl (fun K hK => ?_) (AllReadyH.cons rfl (fun K hK => ?_) AllReadyH.nil)
    ·go_simp
     refine (HSZ1.out _ hS1).mono ?_
     rintro e y1 ⟨qa, qc, rfl, hq1, hbq⟩
     refine hK.out _ _ (hS1.trans (hbq.mono hS1.size)) (fun hS2 => ?_)
     clear hK K
     try simp only [Act.put, List.setIfInBounds_toArray, List.set_cons_zero, List.set_cons_succ]
     refine wpAnyH_ready (rs := [5, 9]) (by kernel_rfl) (by simp) ?_
     refine AllReadyH.cons rfl (fun K hK => ?_) (AllReadyH.cons rfl (fun K hK => ?_) AllReadyH.nil)
     ·go_simp
      refine (HPX1.out _ qa qc hS2 (ListAt.ofOwn hq1.own)).mono ?_
      rintro e y2 ⟨a1, c1, a2, c2, a3, c3, rfl, o1, o2, o3, hbp⟩
      refine hK.out _ _ (hS2.trans (hbp.mono hS2.size)) (fun hS3 => ?_)
      clear hK K
      try simp only [Act.put, List.setIfInBounds_toArray, List.set_cons_zero, List.set_cons_succ]
      replace o1 := o1.weaken (base' := w9.heap.size) hS2.size
      replace o2 := o2.weaken (base' := w9.heap.size) hS2.size
      replace o3 := o3.weaken (base' := w9.heap.size) hS2.size
      refine take_slot (i := 6) (d := 83) (v := .tuple #[.agg #[.bool (fl r), .int .i64 (slotOf r), .slice a1 (payL r).length c1, .slice a2 (outL r).length c2, .slice a3 (hasL r).length c3, .int .i64 (r.steps : Int)], .bool true]) rfl rfl (by kernel_rfl) (by kernel_rfl) (by kernel_rfl) (fun _ _ _ h => h) (Or.inl ⟨by rfl, fun w' h => by go_simp⟩) hS3 ?_
      try simp only [Act.put, List.setIfInBounds_toArray, List.set_cons_zero, List.set_cons_succ]
      refine take_slot (i := 7) (d := 90) (v := .agg #[.bool (fl r), .int .i64 (slotOf r), .slice a1 (payL r).length c1, .slice a2 (outL r).length c2, .slice a3 (hasL r).length c3, .int .i64 (r.steps : Int)]) rfl rfl (by kernel_rfl) (by kernel_rfl) (by kernel_rfl) (fun _ _ _ h => h) (Or.inl ⟨by rfl, fun w' h => by go_simp⟩) hS3 ?_
      try simp only [Act.put, List.setIfInBounds_toArray, List.set_cons_zero, List.set_cons_succ]
      refine take_slot (i := 8) (d := 91) (v := .bool true) rfl rfl (by kernel_rfl) (by kernel_rfl) (by kernel_rfl) (fun _ _ _ h => h) (Or.inl ⟨by rfl, fun w' h => by go_simp⟩) hS3 ?_
      try simp only [Act.put, List.setIfInBounds_toArray, List.set_cons_zero, List.set_cons_succ]
      refine wpAnyH_ready (rs := [9]) (by kernel_rfl) (by simp) ?_
      refine AllReadyH.cons rfl (fun K hK => ?_) AllReadyH.nil
      refine step_alloc rfl rfl ?_
      intro XR ya hzA hXl hgA
      have hbA : Below y2.heap.size y2 ya := (Below.refl _ _).grown hgA (Nat.le_refl _) (fun k hk => by cases hk)
      have hXle : w9.heap.size ≤ XR := Nat.le_trans hS3.size hXl
      refine hK.out _ _ (hS3.trans (hbA.mono hS3.size)) (fun hS4 => ?_)
      clear hK K
      try simp only [Act.put, List.getElem_toArray, List.getElem_cons_succ, List.getElem_cons_zero, List.setIfInBounds_toArray, List.set_cons_zero, List.set_cons_succ]
      replace o1 := o1.kept hbA
      replace o2 := o2.kept hbA
      replace o3 := o3.kept hbA
      have hG := hzA
      refine wpAnyH_ready (rs := [10]) (by kernel_rfl) (by simp) ?_
      refine AllReadyH.cons rfl (fun K hK => ?_) AllReadyH.nil
      refine step_store rfl (.tmp 10) (.tmp 90) rfl rfl rfl hG rfl (by simp [Value.oneCell']) ?_
      intro wx hrow6 hg6
      have hbox := ranBox_mk (r := r) hG o1 o2 o3 hS4 hXle hg6 hrow6
      refine hK.out _ _ (hS4.grown hg6 hS4.size (fun k hk => by cases hk; exact hXle)) (fun hS9 => ?_)
      clear hK K
      try simp only [Act.put, List.getElem_toArray, List.getElem_cons_succ, List.getElem_cons_zero, List.setIfInBounds_toArray, List.set_cons_zero, List.set_cons_succ]
      refine take_slot (i := 11) (d := 11) (v := .bool true) rfl rfl (by kernel_rfl) (by kernel_rfl) (by kernel_rfl) (fun _ _ _ h => h) (Or.inl ⟨by rfl, fun w' h => by go_simp⟩) hS9 ?_
      try simp only [Act.put, List.setIfInBounds_toArray, List.set_cons_zero, List.set_cons_succ]
      refine wpAnyH_done (by kernel_rfl) ?_ _
      go_wp2_with fail
      go_meet
      case rel => exact ⟨XR, rfl, rfl, hbox⟩
     ·refine step_alloc rfl rfl ?_
      intro XR ya hzA hXl hgA
      have hbA : Below y1.heap.size y1 ya := (Below.refl _ _).grown hgA (Nat.le_refl _) (fun k hk => by cases hk)
      have hXle : w9.heap.size ≤ XR := Nat.le_trans hS2.size hXl
      refine hK.out _ _ (hS2.trans (hbA.mono hS2.size)) (fun hS3 => ?_)
      clear hK K
      try simp only [Act.put, List.getElem_toArray, List.getElem_cons_succ, List.getElem_cons_zero, List.setIfInBounds_toArray, List.set_cons_zero, List.set_cons_succ]
      replace hq1 := hq1.kept hbA
      refine wpAnyH_ready (rs := [5]) (by kernel_rfl) (by simp) ?_
      refine AllReadyH.cons rfl (fun K hK => ?_) AllReadyH.nil
      go_simp
      refine (HPX1.out _ qa qc hS3 (ListAt.ofOwn hq1.own)).mono ?_
      rintro e y2 ⟨a1, c1, a2, c2, a3, c3, rfl, o1, o2, o3, hbp⟩
      refine hK.out _ _ (hS3.trans (hbp.mono hS3.size)) (fun hS4 => ?_)
      clear hK K
      try simp only [Act.put, List.setIfInBounds_toArray, List.set_cons_zero, List.set_cons_succ]
      replace o1 := o1.weaken (base' := w9.heap.size) hS3.size
      replace o2 := o2.weaken (base' := w9.heap.size) hS3.size
      replace o3 := o3.weaken (base' := w9.heap.size) hS3.size
      refine take_slot (i := 6) (d := 83) (v := .tuple #[.agg #[.bool (fl r), .int .i64 (slotOf r), .slice a1 (payL r).length c1, .slice a2 (outL r).length c2, .slice a3 (hasL r).length c3, .int .i64 (r.steps : Int)], .bool true]) rfl rfl (by kernel_rfl) (by kernel_rfl) (by kernel_rfl) (fun _ _ _ h => h) (Or.inl ⟨by rfl, fun w' h => by go_simp⟩) hS4 ?_
      try simp only [Act.put, List.setIfInBounds_toArray, List.set_cons_zero, List.set_cons_succ]
      refine take_slot (i := 7) (d := 90) (v := .agg #[.bool (fl r), .int .i64 (slotOf r), .slice a1 (payL r).length c1, .slice a2 (outL r).length c2, .slice a3 (hasL r).length c3, .int .i64 (r.steps : Int)]) rfl rfl (by kernel_rfl) (by kernel_rfl) (by kernel_rfl) (fun _ _ _ h => h) (Or.inl ⟨by rfl, fun w' h => by go_simp⟩) hS4 ?_
      try simp only [Act.put, List.setIfInBounds_toArray, List.set_cons_zero, List.set_cons_succ]
      refine take_slot (i := 8) (d := 91) (v := .bool true) rfl rfl (by kernel_rfl) (by kernel_rfl) (by kernel_rfl) (fun _ _ _ h => h) (Or.inl ⟨by rfl, fun w' h => by go_simp⟩) hS4 ?_
      try simp only [Act.put, List.setIfInBounds_toArray, List.set_cons_zero, List.set_cons_succ]
      have hG := (hbp.block _ (lt_of_block hzA)).trans hzA
      refine wpAnyH_ready (rs := [10]) (by kernel_rfl) (by simp) ?_
      refine AllReadyH.cons rfl (fun K hK => ?_) AllReadyH.nil
      refine step_store rfl (.tmp 10) (.tmp 90) rfl rfl rfl hG rfl (by simp [Value.oneCell']) ?_
      intro wx hrow6 hg6
      have hbox := ranBox_mk (r := r) hG o1 o2 o3 hS4 hXle hg6 hrow6
      refine hK.out _ _ (hS4.grown hg6 hS4.size (fun k hk => by cases hk; exact hXle)) (fun hS9 => ?_)
      clear hK K
      try simp only [Act.put, List.getElem_toArray, List.getElem_cons_succ, List.getElem_cons_zero, List.setIfInBounds_toArray, List.set_cons_zero, List.set_cons_succ]
      refine take_slot (i := 11) (d := 11) (v := .bool true) rfl rfl (by kernel_rfl) (by kernel_rfl) (by kernel_rfl) (fun _ _ _ h => h) (Or.inl ⟨by rfl, fun w' h => by go_simp⟩) hS9 ?_
      try simp only [Act.put, List.setIfInBounds_toArray, List.set_cons_zero, List.set_cons_succ]
      refine wpAnyH_done (by kernel_rfl) ?_ _
      go_wp2_with fail
      go_meet
      case rel => exact ⟨XR, rfl, rfl, hbox⟩
    ·refine step_alloc rfl rfl ?_
     intro XR ya hzA hXl hgA
     have hbA : Below w9.drew.heap.size w9.drew ya := (Below.refl _ _).grown hgA (Nat.le_refl _) (fun k hk => by cases hk)
     have hXle : w9.heap.size ≤ XR := Nat.le_trans hS1.size hXl
     refine hK.out _ _ (hS1.trans (hbA.mono hS1.size)) (fun hS2 => ?_)
     clear hK K
     try simp only [Act.put, List.getElem_toArray, List.getElem_cons_succ, List.getElem_cons_zero, List.setIfInBounds_toArray, List.set_cons_zero, List.set_cons_succ]
     refine wpAnyH_ready (rs := [3]) (by kernel_rfl) (by simp) ?_
     refine AllReadyH.cons rfl (fun K hK => ?_) AllReadyH.nil
     go_simp
     refine (HSZ1.out _ hS2).mono ?_
     rintro e y1 ⟨qa, qc, rfl, hq1, hbq⟩
     refine hK.out _ _ (hS2.trans (hbq.mono hS2.size)) (fun hS3 => ?_)
     clear hK K
     try simp only [Act.put, List.setIfInBounds_toArray, List.set_cons_zero, List.set_cons_succ]
     refine wpAnyH_ready (rs := [5]) (by kernel_rfl) (by simp) ?_
     refine AllReadyH.cons rfl (fun K hK => ?_) AllReadyH.nil
     go_simp
     refine (HPX1.out _ qa qc hS3 (ListAt.ofOwn hq1.own)).mono ?_
     rintro e y2 ⟨a1, c1, a2, c2, a3, c3, rfl, o1, o2, o3, hbp⟩
     refine hK.out _ _ (hS3.trans (hbp.mono hS3.size)) (fun hS4 => ?_)
     clear hK K
     try simp only [Act.put, List.setIfInBounds_toArray, List.set_cons_zero, List.set_cons_succ]
     replace o1 := o1.weaken (base' := w9.heap.size) hS3.size
     replace o2 := o2.weaken (base' := w9.heap.size) hS3.size
     replace o3 := o3.weaken (base' := w9.heap.size) hS3.size
     refine take_slot (i := 6) (d := 83) (v := .tuple #[.agg #[.bool (fl r), .int .i64 (slotOf r), .slice a1 (payL r).length c1, .slice a2 (outL r).length c2, .slice a3 (hasL r).length c3, .int .i64 (r.steps : Int)], .bool true]) rfl rfl (by kernel_rfl) (by kernel_rfl) (by kernel_rfl) (fun _ _ _ h => h) (Or.inl ⟨by rfl, fun w' h => by go_simp⟩) hS4 ?_
     try simp only [Act.put, List.setIfInBounds_toArray, List.set_cons_zero, List.set_cons_succ]
     refine take_slot (i := 7) (d := 90) (v := .agg #[.bool (fl r), .int .i64 (slotOf r), .slice a1 (payL r).length c1, .slice a2 (outL r).length c2, .slice a3 (hasL r).length c3, .int .i64 (r.steps : Int)]) rfl rfl (by kernel_rfl) (by kernel_rfl) (by kernel_rfl) (fun _ _ _ h => h) (Or.inl ⟨by rfl, fun w' h => by go_simp⟩) hS4 ?_
     try simp only [Act.put, List.setIfInBounds_toArray, List.set_cons_zero, List.set_cons_succ]
     refine take_slot (i := 8) (d := 91) (v := .bool true) rfl rfl (by kernel_rfl) (by kernel_rfl) (by kernel_rfl) (fun _ _ _ h => h) (Or.inl ⟨by rfl, fun w' h => by go_simp⟩) hS4 ?_
     try simp only [Act.put, List.setIfInBounds_toArray, List.set_cons_zero, List.set_cons_succ]
     have hG := (hbp.block _ (Nat.lt_of_lt_of_le (lt_of_block hzA) hbq.size)).trans ((hbq.block _ (lt_of_block hzA)).trans hzA)
     refine wpAnyH_ready (rs := [10]) (by kernel_rfl) (by simp) ?_
     refine AllReadyH.cons rfl (fun K hK => ?_) AllReadyH.nil
     refine step_store rfl (.tmp 10) (.tmp 90) rfl rfl rfl hG rfl (by simp [Value.oneCell']) ?_
     intro wx hrow6 hg6
     have hbox := ranBox_mk (r := r) hG o1 o2 o3 hS4 hXle hg6 hrow6
     refine hK.out _ _ (hS4.grown hg6 hS4.size (fun k hk => by cases hk; exact hXle)) (fun hS9 => ?_)
     clear hK K
     try simp only [Act.put, List.getElem_toArray, List.getElem_cons_succ, List.getElem_cons_zero, List.setIfInBounds_toArray, List.set_cons_zero, List.set_cons_succ]
     refine take_slot (i := 11) (d := 11) (v := .bool true) rfl rfl (by kernel_rfl) (by kernel_rfl) (by kernel_rfl) (fun _ _ _ h => h) (Or.inl ⟨by rfl, fun w' h => by go_simp⟩) hS9 ?_
     try simp only [Act.put, List.setIfInBounds_toArray, List.set_cons_zero, List.set_cons_succ]
     refine wpAnyH_done (by kernel_rfl) ?_ _
     go_wp2_with fail
     go_meet
     case rel => exact ⟨XR, rfl, rfl, hbox⟩
   obtain ⟨Y1, rfl, rfl, hbx⟩ := hcut
   obtain ⟨x1, rfl⟩ : ∃ x, x = wc := ⟨_, rfl⟩
   have hbl := hbx.bel
   have HRB1 := Lib.hid hbx
   have HBX2 := Lib.hid (HBX1.out.trans (hbl.mono HBX1.out.size))
   have HBXM2 := Lib.hid (HBXM1.out.below hbl HBXM1.out.blk)
   have HTRN2 := Lib.hid (HTRN1.out.below hbl HTRN1.out.blk)
   clear hbl hbx HSZ1 HPX1
   go_upto_region 20 with fail
   have HSZ2 := Lib.hid (fun wy (h : Below x1.heap.size x1 wy) => HSIZED.out wy (HBX2.out.trans (h.mono HBX2.out.size)))
   have HPX2 := Lib.hid (fun wy qa qc (h : Below x1.heap.size x1 wy) (hq : ListAt wy qa z ((B.padL pay1 z).map u8V)) => HPK2.out wy qa qc (HBX2.out.trans (h.mono HBX2.out.size)) hq)
   go_cut [12, 13] from 92 to 100 (fun p q wx => ∃ Y : Nat, p = .pointer (some ⟨Y, 0, none⟩) ∧ q = .bool true ∧ RanBox r Y x1 wx)
   case first =>
    refine wp_region_held_drew (S := Below x1.heap.size x1) (by kernel_rfl) (Below.refl _ _).drew (fun hS1 => ?_)
    refine take_slot (i := 0) (d := 93) (v := .agg (turnC m0 (.slice ca sn0 cc))) rfl rfl (by kernel_rfl) (by kernel_rfl) (by kernel_rfl) (fun _ _ _ h => h) (yieldsIf_load_mid (by rfl) 27 (.tmp 7) rfl X 0 rfl ((turnC m0 (.slice ca sn0 cc)) : Array Value).toList _ (fun w' h => RC.range (HTRN2.out.below h HTRN2.out.blk)) Tryz.underlying27 rfl (by kernel_rfl)) hS1 ?_
    try simp only [Act.put, List.setIfInBounds_toArray, List.set_cons_zero, List.set_cons_succ]
    refine take_slot (i := 1) (d := 94) (v := .agg (msgC m0 (.slice sa0 sn0 sc0))) rfl rfl (by kernel_rfl) (by kernel_rfl) (by kernel_rfl) (fun _ _ _ h => h) (yieldsIf_load_mid (by rfl) 27 (.tmp 3) rfl w.heap.size 0 rfl ((msgC m0 (.slice sa0 sn0 sc0)) : Array Value).toList _ (fun w' h => RC.range (HBXM2.out.below h HBXM2.out.blk)) Tryz.underlying27 rfl (by kernel_rfl)) hS1 ?_
    try simp only [Act.put, List.setIfInBounds_toArray, List.set_cons_zero, List.set_cons_succ]
    refine take_slot (i := 2) (d := 95) (v := .slice pa1 pn1 pc1) rfl rfl (by kernel_rfl) (by kernel_rfl) (by kernel_rfl) (fun _ _ _ h => h) (Or.inl ⟨by rfl, fun w' h => by go_simp⟩) hS1 ?_
    try simp only [Act.put, List.setIfInBounds_toArray, List.set_cons_zero, List.set_cons_succ]
    refine take_slot (i := 4) (d := 97) (v := .slice va sn0 vc) rfl rfl (by kernel_rfl) (by kernel_rfl) (by kernel_rfl) (fun _ _ _ h => h) (Or.inl ⟨by rfl, fun w' h => by go_simp⟩) hS1 ?_
    try simp only [Act.put, List.setIfInBounds_toArray, List.set_cons_zero, List.set_cons_succ]
    refine wpAnyH_ready (rs := [3, 9]) (by kernel_rfl) (by simp) ?_
    refine AllReadyH.cons rfl (fun K hK => ?_) (AllReadyH.cons rfl (fun K hK => ?_) AllReadyH.nil)
    ·go_simp
     refine (HSZ2.out _ hS1).mono ?_
     rintro e y1 ⟨qa, qc, rfl, hq1, hbq⟩
     refine hK.out _ _ (hS1.trans (hbq.mono hS1.size)) (fun hS2 => ?_)
     clear hK K
     try simp only [Act.put, List.setIfInBounds_toArray, List.set_cons_zero, List.set_cons_succ]
     refine wpAnyH_ready (rs := [5, 9]) (by kernel_rfl) (by simp) ?_
     refine AllReadyH.cons rfl (fun K hK => ?_) (AllReadyH.cons rfl (fun K hK => ?_) AllReadyH.nil)
     ·go_simp
      refine (HPX2.out _ qa qc hS2 (ListAt.ofOwn hq1.own)).mono ?_
      rintro e y2 ⟨a1, c1, a2, c2, a3, c3, rfl, o1, o2, o3, hbp⟩
      refine hK.out _ _ (hS2.trans (hbp.mono hS2.size)) (fun hS3 => ?_)
      clear hK K
      try simp only [Act.put, List.setIfInBounds_toArray, List.set_cons_zero, List.set_cons_succ]
      replace o1 := o1.weaken (base' := x1.heap.size) hS2.size
      replace o2 := o2.weaken (base' := x1.heap.size) hS2.size
      replace o3 := o3.weaken (base' := x1.heap.size) hS2.size
      refine take_slot (i := 6) (d := 92) (v := .tuple #[.agg #[.bool (fl r), .int .i64 (slotOf r), .slice a1 (payL r).length c1, .slice a2 (outL r).length c2, .slice a3 (hasL r).length c3, .int .i64 (r.steps : Int)], .bool true]) rfl rfl (by kernel_rfl) (by kernel_rfl) (by kernel_rfl) (fun _ _ _ h => h) (Or.inl ⟨by rfl, fun w' h => by go_simp⟩) hS3 ?_
      try simp only [Act.put, List.setIfInBounds_toArray, List.set_cons_zero, List.set_cons_succ]
      refine take_slot (i := 7) (d := 99) (v := .agg #[.bool (fl r), .int .i64 (slotOf r), .slice a1 (payL r).length c1, .slice a2 (outL r).length c2, .slice a3 (hasL r).length c3, .int .i64 (r.steps : Int)]) rfl rfl (by kernel_rfl) (by kernel_rfl) (by kernel_rfl) (fun _ _ _ h => h) (Or.inl ⟨by rfl, fun w' h => by go_simp⟩) hS3 ?_
      try simp only [Act.put, List.setIfInBounds_toArray, List.set_cons_zero, List.set_cons_succ]
      refine take_slot (i := 8) (d := 100) (v := .bool true) rfl rfl (by kernel_rfl) (by kernel_rfl) (by kernel_rfl) (fun _ _ _ h => h) (Or.inl ⟨by rfl, fun w' h => by go_simp⟩) hS3 ?_
      try simp only [Act.put, List.setIfInBounds_toArray, List.set_cons_zero, List.set_cons_succ]
      refine wpAnyH_ready (rs := [9]) (by kernel_rfl) (by simp) ?_
      refine AllReadyH.cons rfl (fun K hK => ?_) AllReadyH.nil
      refine step_alloc rfl rfl ?_
      intro XR ya hzA hXl hgA
      have hbA : Below y2.heap.size y2 ya := (Below.refl _ _).grown hgA (Nat.le_refl _) (fun k hk => by cases hk)
      have hXle : x1.heap.size ≤ XR := Nat.le_trans hS3.size hXl
      refine hK.out _ _ (hS3.trans (hbA.mono hS3.size)) (fun hS4 => ?_)
      clear hK K
      try simp only [Act.put, List.getElem_toArray, List.getElem_cons_succ, List.getElem_cons_zero, List.setIfInBounds_toArray, List.set_cons_zero, List.set_cons_succ]
      replace o1 := o1.kept hbA
      replace o2 := o2.kept hbA
      replace o3 := o3.kept hbA
      have hG := hzA
      refine wpAnyH_ready (rs := [10]) (by kernel_rfl) (by simp) ?_
      refine AllReadyH.cons rfl (fun K hK => ?_) AllReadyH.nil
      refine step_store rfl (.tmp 12) (.tmp 99) rfl rfl rfl hG rfl (by simp [Value.oneCell']) ?_
      intro wx hrow6 hg6
      have hbox := ranBox_mk (r := r) hG o1 o2 o3 hS4 hXle hg6 hrow6
      refine hK.out _ _ (hS4.grown hg6 hS4.size (fun k hk => by cases hk; exact hXle)) (fun hS9 => ?_)
      clear hK K
      try simp only [Act.put, List.getElem_toArray, List.getElem_cons_succ, List.getElem_cons_zero, List.setIfInBounds_toArray, List.set_cons_zero, List.set_cons_succ]
      refine take_slot (i := 11) (d := 13) (v := .bool true) rfl rfl (by kernel_rfl) (by kernel_rfl) (by kernel_rfl) (fun _ _ _ h => h) (Or.inl ⟨by rfl, fun w' h => by go_simp⟩) hS9 ?_
      try simp only [Act.put, List.setIfInBounds_toArray, List.set_cons_zero, List.set_cons_succ]
      refine wpAnyH_done (by kernel_rfl) ?_ _
      go_wp2_with fail
      go_meet
      case rel => exact ⟨XR, rfl, rfl, hbox⟩
     ·refine step_alloc rfl rfl ?_
      intro XR ya hzA hXl hgA
      have hbA : Below y1.heap.size y1 ya := (Below.refl _ _).grown hgA (Nat.le_refl _) (fun k hk => by cases hk)
      have hXle : x1.heap.size ≤ XR := Nat.le_trans hS2.size hXl
      refine hK.out _ _ (hS2.trans (hbA.mono hS2.size)) (fun hS3 => ?_)
      clear hK K
      try simp only [Act.put, List.getElem_toArray, List.getElem_cons_succ, List.getElem_cons_zero, List.setIfInBounds_toArray, List.set_cons_zero, List.set_cons_succ]
      replace hq1 := hq1.kept hbA
      refine wpAnyH_ready (rs := [5]) (by kernel_rfl) (by simp) ?_
      refine AllReadyH.cons rfl (fun K hK => ?_) AllReadyH.nil
      go_simp
      refine (HPX2.out _ qa qc hS3 (ListAt.ofOwn hq1.own)).mono ?_
      rintro e y2 ⟨a1, c1, a2, c2, a3, c3, rfl, o1, o2, o3, hbp⟩
      refine hK.out _ _ (hS3.trans (hbp.mono hS3.size)) (fun hS4 => ?_)
      clear hK K
      try simp only [Act.put, List.setIfInBounds_toArray, List.set_cons_zero, List.set_cons_succ]
      replace o1 := o1.weaken (base' := x1.heap.size) hS3.size
      replace o2 := o2.weaken (base' := x1.heap.size) hS3.size
      replace o3 := o3.weaken (base' := x1.heap.size) hS3.size
      refine take_slot (i := 6) (d := 92) (v := .tuple #[.agg #[.bool (fl r), .int .i64 (slotOf r), .slice a1 (payL r).length c1, .slice a2 (outL r).length c2, .slice a3 (hasL r).length c3, .int .i64 (r.steps : Int)], .bool true]) rfl rfl (by kernel_rfl) (by kernel_rfl) (by kernel_rfl) (fun _ _ _ h => h) (Or.inl ⟨by rfl, fun w' h => by go_simp⟩) hS4 ?_
      try simp only [Act.put, List.setIfInBounds_toArray, List.set_cons_zero, List.set_cons_succ]
      refine take_slot (i := 7) (d := 99) (v := .agg #[.bool (fl r), .int .i64 (slotOf r), .slice a1 (payL r).length c1, .slice a2 (outL r).length c2, .slice a3 (hasL r).length c3, .int .i64 (r.steps : Int)]) rfl rfl (by kernel_rfl) (by kernel_rfl) (by kernel_rfl) (fun _ _ _ h => h) (Or.inl ⟨by rfl, fun w' h => by go_simp⟩) hS4 ?_
      try simp only [Act.put, List.setIfInBounds_toArray, List.set_cons_zero, List.set_cons_succ]
      refine take_slot (i := 8) (d := 100) (v := .bool true) rfl rfl (by kernel_rfl) (by kernel_rfl) (by kernel_rfl) (fun _ _ _ h => h) (Or.inl ⟨by rfl, fun w' h => by go_simp⟩) hS4 ?_
      try simp only [Act.put, List.setIfInBounds_toArray, List.set_cons_zero, List.set_cons_succ]
      have hG := (hbp.block _ (lt_of_block hzA)).trans hzA
      refine wpAnyH_ready (rs := [10]) (by kernel_rfl) (by simp) ?_
      refine AllReadyH.cons rfl (fun K hK => ?_) AllReadyH.nil
      refine step_store rfl (.tmp 12) (.tmp 99) rfl rfl rfl hG rfl (by simp [Value.oneCell']) ?_
      intro wx hrow6 hg6
      have hbox := ranBox_mk (r := r) hG o1 o2 o3 hS4 hXle hg6 hrow6
      refine hK.out _ _ (hS4.grown hg6 hS4.size (fun k hk => by cases hk; exact hXle)) (fun hS9 => ?_)
      clear hK K
      try simp only [Act.put, List.getElem_toArray, List.getElem_cons_succ, List.getElem_cons_zero, List.setIfInBounds_toArray, List.set_cons_zero, List.set_cons_succ]
      refine take_slot (i := 11) (d := 13) (v := .bool true) rfl rfl (by kernel_rfl) (by kernel_rfl) (by kernel_rfl) (fun _ _ _ h => h) (Or.inl ⟨by rfl, fun w' h => by go_simp⟩) hS9 ?_
      try simp only [Act.put, List.setIfInBounds_toArray, List.set_cons_zero, List.set_cons_succ]
      refine wpAnyH_done (by kernel_rfl) ?_ _
      go_wp2_with fail
      go_meet
      case rel => exact ⟨XR, rfl, rfl, hbox⟩
    ·refine step_alloc rfl rfl ?_
     intro XR ya hzA hXl hgA
     have hbA : Below x1.drew.heap.size x1.drew ya := (Below.refl _ _).grown hgA (Nat.le_refl _) (fun k hk => by cases hk)
     have hXle : x1.heap.size ≤ XR := Nat.le_trans hS1.size hXl
     refine hK.out _ _ (hS1.trans (hbA.mono hS1.size)) (fun hS2 => ?_)
     clear hK K
     try simp only [Act.put, List.getElem_toArray, List.getElem_cons_succ, List.getElem_cons_zero, List.setIfInBounds_toArray, List.set_cons_zero, List.set_cons_succ]
     refine wpAnyH_ready (rs := [3]) (by kernel_rfl) (by simp) ?_
     refine AllReadyH.cons rfl (fun K hK => ?_) AllReadyH.nil
     go_simp
     refine (HSZ2.out _ hS2).mono ?_
     rintro e y1 ⟨qa, qc, rfl, hq1, hbq⟩
     refine hK.out _ _ (hS2.trans (hbq.mono hS2.size)) (fun hS3 => ?_)
     clear hK K
     try simp only [Act.put, List.setIfInBounds_toArray, List.set_cons_zero, List.set_cons_succ]
     refine wpAnyH_ready (rs := [5]) (by kernel_rfl) (by simp) ?_
     refine AllReadyH.cons rfl (fun K hK => ?_) AllReadyH.nil
     go_simp
     refine (HPX2.out _ qa qc hS3 (ListAt.ofOwn hq1.own)).mono ?_
     rintro e y2 ⟨a1, c1, a2, c2, a3, c3, rfl, o1, o2, o3, hbp⟩
     refine hK.out _ _ (hS3.trans (hbp.mono hS3.size)) (fun hS4 => ?_)
     clear hK K
     try simp only [Act.put, List.setIfInBounds_toArray, List.set_cons_zero, List.set_cons_succ]
     replace o1 := o1.weaken (base' := x1.heap.size) hS3.size
     replace o2 := o2.weaken (base' := x1.heap.size) hS3.size
     replace o3 := o3.weaken (base' := x1.heap.size) hS3.size
     refine take_slot (i := 6) (d := 92) (v := .tuple #[.agg #[.bool (fl r), .int .i64 (slotOf r), .slice a1 (payL r).length c1, .slice a2 (outL r).length c2, .slice a3 (hasL r).length c3, .int .i64 (r.steps : Int)], .bool true]) rfl rfl (by kernel_rfl) (by kernel_rfl) (by kernel_rfl) (fun _ _ _ h => h) (Or.inl ⟨by rfl, fun w' h => by go_simp⟩) hS4 ?_
     try simp only [Act.put, List.setIfInBounds_toArray, List.set_cons_zero, List.set_cons_succ]
     refine take_slot (i := 7) (d := 99) (v := .agg #[.bool (fl r), .int .i64 (slotOf r), .slice a1 (payL r).length c1, .slice a2 (outL r).length c2, .slice a3 (hasL r).length c3, .int .i64 (r.steps : Int)]) rfl rfl (by kernel_rfl) (by kernel_rfl) (by kernel_rfl) (fun _ _ _ h => h) (Or.inl ⟨by rfl, fun w' h => by go_simp⟩) hS4 ?_
     try simp only [Act.put, List.setIfInBounds_toArray, List.set_cons_zero, List.set_cons_succ]
     refine take_slot (i := 8) (d := 100) (v := .bool true) rfl rfl (by kernel_rfl) (by kernel_rfl) (by kernel_rfl) (fun _ _ _ h => h) (Or.inl ⟨by rfl, fun w' h => by go_simp⟩) hS4 ?_
     try simp only [Act.put, List.setIfInBounds_toArray, List.set_cons_zero, List.set_cons_succ]
     have hG := (hbp.block _ (Nat.lt_of_lt_of_le (lt_of_block hzA) hbq.size)).trans ((hbq.block _ (lt_of_block hzA)).trans hzA)
     refine wpAnyH_ready (rs := [10]) (by kernel_rfl) (by simp) ?_
     refine AllReadyH.cons rfl (fun K hK => ?_) AllReadyH.nil
     refine step_store rfl (.tmp 12) (.tmp 99) rfl rfl rfl hG rfl (by simp [Value.oneCell']) ?_
     intro wx hrow6 hg6
     have hbox := ranBox_mk (r := r) hG o1 o2 o3 hS4 hXle hg6 hrow6
     refine hK.out _ _ (hS4.grown hg6 hS4.size (fun k hk => by cases hk; exact hXle)) (fun hS9 => ?_)
     clear hK K
     try simp only [Act.put, List.getElem_toArray, List.getElem_cons_succ, List.getElem_cons_zero, List.setIfInBounds_toArray, List.set_cons_zero, List.set_cons_succ]
     refine take_slot (i := 11) (d := 13) (v := .bool true) rfl rfl (by kernel_rfl) (by kernel_rfl) (by kernel_rfl) (fun _ _ _ h => h) (Or.inl ⟨by rfl, fun w' h => by go_simp⟩) hS9 ?_
     try simp only [Act.put, List.setIfInBounds_toArray, List.set_cons_zero, List.set_cons_succ]
     refine wpAnyH_done (by kernel_rfl) ?_ _
     go_wp2_with fail
     go_meet
     case rel => exact ⟨XR, rfl, rfl, hbox⟩
   obtain ⟨Y2, rfl, rfl, hbx⟩ := hcut
   obtain ⟨x2, rfl⟩ : ∃ x, x = wc := ⟨_, rfl⟩
   have hbl := hbx.bel
   have HRB2 := Lib.hid hbx
   have HBX3 := Lib.hid (HBX2.out.trans (hbl.mono HBX2.out.size))
   have HBXM3 := Lib.hid (HBXM2.out.below hbl HBXM2.out.blk)
   have HTRN3 := Lib.hid (HTRN2.out.below hbl HTRN2.out.blk)
   have HRB1_2 := Lib.hid (HRB1.out.kept hbl)
   clear hbl hbx HSZ2 HPX2
   go_upto_region 21 with fail
   have HSZ3 := Lib.hid (fun wy (h : Below x2.heap.size x2 wy) => HSIZED.out wy (HBX3.out.trans (h.mono HBX3.out.size)))
   have HPX3 := Lib.hid (fun wy qa qc (h : Below x2.heap.size x2 wy) (hq : ListAt wy qa z ((B.padL pay1 z).map u8V)) => HUN1.out wy qa qc (HBX3.out.trans (h.mono HBX3.out.size)) hq)
   go_cut [14, 15] from 101 to 108 (fun p q wx => ∃ Y : Nat, p = .pointer (some ⟨Y, 0, none⟩) ∧ q = .bool true ∧ RanBox rq Y x2 wx)
   case first =>
    refine wp_region_held_drew (S := Below x2.heap.size x2) (by kernel_rfl) (Below.refl _ _).drew (fun hS1 => ?_)
    refine take_slot (i := 0) (d := 102) (v := .agg (msgC m0 (.slice sa0 sn0 sc0))) rfl rfl (by kernel_rfl) (by kernel_rfl) (by kernel_rfl) (fun _ _ _ h => h) (yieldsIf_load_mid (by rfl) 27 (.tmp 3) rfl w.heap.size 0 rfl ((msgC m0 (.slice sa0 sn0 sc0)) : Array Value).toList _ (fun w' h => RC.range (HBXM3.out.below h HBXM3.out.blk)) Tryz.underlying27 rfl (by kernel_rfl)) hS1 ?_
    try simp only [Act.put, List.setIfInBounds_toArray, List.set_cons_zero, List.set_cons_succ]
    refine take_slot (i := 1) (d := 103) (v := .agg (msgC m0 (.slice sa0 sn0 sc0))) rfl rfl (by kernel_rfl) (by kernel_rfl) (by kernel_rfl) (fun _ _ _ h => h) (yieldsIf_load_mid (by rfl) 27 (.tmp 3) rfl w.heap.size 0 rfl ((msgC m0 (.slice sa0 sn0 sc0)) : Array Value).toList _ (fun w' h => RC.range (HBXM3.out.below h HBXM3.out.blk)) Tryz.underlying27 rfl (by kernel_rfl)) hS1 ?_
    try simp only [Act.put, List.setIfInBounds_toArray, List.set_cons_zero, List.set_cons_succ]
    refine take_slot (i := 2) (d := 104) (v := .slice pa1 pn1 pc1) rfl rfl (by kernel_rfl) (by kernel_rfl) (by kernel_rfl) (fun _ _ _ h => h) (Or.inl ⟨by rfl, fun w' h => by go_simp⟩) hS1 ?_
    try simp only [Act.put, List.setIfInBounds_toArray, List.set_cons_zero, List.set_cons_succ]
    refine wpAnyH_ready (rs := [3, 8]) (by kernel_rfl) (by simp) ?_
    refine AllReadyH.cons rfl (fun K hK => ?_) (AllReadyH.cons rfl (fun K hK => ?_) AllReadyH.nil)
    ·go_simp
     refine (HSZ3.out _ hS1).mono ?_
     rintro e y1 ⟨qa, qc, rfl, hq1, hbq⟩
     refine hK.out _ _ (hS1.trans (hbq.mono hS1.size)) (fun hS2 => ?_)
     clear hK K
     try simp only [Act.put, List.setIfInBounds_toArray, List.set_cons_zero, List.set_cons_succ]
     refine wpAnyH_ready (rs := [4, 8]) (by kernel_rfl) (by simp) ?_
     refine AllReadyH.cons rfl (fun K hK => ?_) (AllReadyH.cons rfl (fun K hK => ?_) AllReadyH.nil)
     ·go_simp
      refine (HPX3.out _ qa qc hS2 (ListAt.ofOwn hq1.own)).mono ?_
      rintro e y2 ⟨a1, c1, a2, c2, a3, c3, rfl, o1, o2, o3, hbp⟩
      refine hK.out _ _ (hS2.trans (hbp.mono hS2.size)) (fun hS3 => ?_)
      clear hK K
      try simp only [Act.put, List.setIfInBounds_toArray, List.set_cons_zero, List.set_cons_succ]
      replace o1 := o1.weaken (base' := x2.heap.size) hS2.size
      replace o2 := o2.weaken (base' := x2.heap.size) hS2.size
      replace o3 := o3.weaken (base' := x2.heap.size) hS2.size
      refine take_slot (i := 5) (d := 101) (v := .tuple #[.agg #[.bool (fl rq), .int .i64 (slotOf rq), .slice a1 (payL rq).length c1, .slice a2 (outL rq).length c2, .slice a3 (hasL rq).length c3, .int .i64 (rq.steps : Int)], .bool true]) rfl rfl (by kernel_rfl) (by kernel_rfl) (by kernel_rfl) (fun _ _ _ h => h) (Or.inl ⟨by rfl, fun w' h => by go_simp⟩) hS3 ?_
      try simp only [Act.put, List.setIfInBounds_toArray, List.set_cons_zero, List.set_cons_succ]
      refine take_slot (i := 6) (d := 107) (v := .agg #[.bool (fl rq), .int .i64 (slotOf rq), .slice a1 (payL rq).length c1, .slice a2 (outL rq).length c2, .slice a3 (hasL rq).length c3, .int .i64 (rq.steps : Int)]) rfl rfl (by kernel_rfl) (by kernel_rfl) (by kernel_rfl) (fun _ _ _ h => h) (Or.inl ⟨by rfl, fun w' h => by go_simp⟩) hS3 ?_
      try simp only [Act.put, List.setIfInBounds_toArray, List.set_cons_zero, List.set_cons_succ]
      refine take_slot (i := 7) (d := 108) (v := .bool true) rfl rfl (by kernel_rfl) (by kernel_rfl) (by kernel_rfl) (fun _ _ _ h => h) (Or.inl ⟨by rfl, fun w' h => by go_simp⟩) hS3 ?_
      try simp only [Act.put, List.setIfInBounds_toArray, List.set_cons_zero, List.set_cons_succ]
      refine wpAnyH_ready (rs := [8]) (by kernel_rfl) (by simp) ?_
      refine AllReadyH.cons rfl (fun K hK => ?_) AllReadyH.nil
      refine step_alloc rfl rfl ?_
      intro XR ya hzA hXl hgA
      have hbA : Below y2.heap.size y2 ya := (Below.refl _ _).grown hgA (Nat.le_refl _) (fun k hk => by cases hk)
      have hXle : x2.heap.size ≤ XR := Nat.le_trans hS3.size hXl
      refine hK.out _ _ (hS3.trans (hbA.mono hS3.size)) (fun hS4 => ?_)
      clear hK K
      try simp only [Act.put, List.getElem_toArray, List.getElem_cons_succ, List.getElem_cons_zero, List.setIfInBounds_toArray, List.set_cons_zero, List.set_cons_succ]
      replace o1 := o1.kept hbA
      replace o2 := o2.kept hbA
      replace o3 := o3.kept hbA
      have hG := hzA
      refine wpAnyH_ready (rs := [9]) (by kernel_rfl) (by simp) ?_
      refine AllReadyH.cons rfl (fun K hK => ?_) AllReadyH.nil
      refine step_store rfl (.tmp 14) (.tmp 107) rfl rfl rfl hG rfl (by simp [Value.oneCell']) ?_
      intro wx hrow6 hg6
      have hbox := ranBox_mk (r := rq) hG o1 o2 o3 hS4 hXle hg6 hrow6
      refine hK.out _ _ (hS4.grown hg6 hS4.size (fun k hk => by cases hk; exact hXle)) (fun hS9 => ?_)
      clear hK K
      try simp only [Act.put, List.getElem_toArray, List.getElem_cons_succ, List.getElem_cons_zero, List.setIfInBounds_toArray, List.set_cons_zero, List.set_cons_succ]
      refine take_slot (i := 10) (d := 15) (v := .bool true) rfl rfl (by kernel_rfl) (by kernel_rfl) (by kernel_rfl) (fun _ _ _ h => h) (Or.inl ⟨by rfl, fun w' h => by go_simp⟩) hS9 ?_
      try simp only [Act.put, List.setIfInBounds_toArray, List.set_cons_zero, List.set_cons_succ]
      refine wpAnyH_done (by kernel_rfl) ?_ _
      go_wp2_with fail
      go_meet
      case rel => exact ⟨XR, rfl, rfl, hbox⟩
     ·refine step_alloc rfl rfl ?_
      intro XR ya hzA hXl hgA
      have hbA : Below y1.heap.size y1 ya := (Below.refl _ _).grown hgA (Nat.le_refl _) (fun k hk => by cases hk)
      have hXle : x2.heap.size ≤ XR := Nat.le_trans hS2.size hXl
      refine hK.out _ _ (hS2.trans (hbA.mono hS2.size)) (fun hS3 => ?_)
      clear hK K
      try simp only [Act.put, List.getElem_toArray, List.getElem_cons_succ, List.getElem_cons_zero, List.setIfInBounds_toArray, List.set_cons_zero, List.set_cons_succ]
      replace hq1 := hq1.kept hbA
      refine wpAnyH_ready (rs := [4]) (by kernel_rfl) (by simp) ?_
      refine AllReadyH.cons rfl (fun K hK => ?_) AllReadyH.nil
      go_simp
      refine (HPX3.out _ qa qc hS3 (ListAt.ofOwn hq1.own)).mono ?_
      rintro e y2 ⟨a1, c1, a2, c2, a3, c3, rfl, o1, o2, o3, hbp⟩
      refine hK.out _ _ (hS3.trans (hbp.mono hS3.size)) (fun hS4 => ?_)
      clear hK K
      try simp only [Act.put, List.setIfInBounds_toArray, List.set_cons_zero, List.set_cons_succ]
      replace o1 := o1.weaken (base' := x2.heap.size) hS3.size
      replace o2 := o2.weaken (base' := x2.heap.size) hS3.size
      replace o3 := o3.weaken (base' := x2.heap.size) hS3.size
      refine take_slot (i := 5) (d := 101) (v := .tuple #[.agg #[.bool (fl rq), .int .i64 (slotOf rq), .slice a1 (payL rq).length c1, .slice a2 (outL rq).length c2, .slice a3 (hasL rq).length c3, .int .i64 (rq.steps : Int)], .bool true]) rfl rfl (by kernel_rfl) (by kernel_rfl) (by kernel_rfl) (fun _ _ _ h => h) (Or.inl ⟨by rfl, fun w' h => by go_simp⟩) hS4 ?_
      try simp only [Act.put, List.setIfInBounds_toArray, List.set_cons_zero, List.set_cons_succ]
      refine take_slot (i := 6) (d := 107) (v := .agg #[.bool (fl rq), .int .i64 (slotOf rq), .slice a1 (payL rq).length c1, .slice a2 (outL rq).length c2, .slice a3 (hasL rq).length c3, .int .i64 (rq.steps : Int)]) rfl rfl (by kernel_rfl) (by kernel_rfl) (by kernel_rfl) (fun _ _ _ h => h) (Or.inl ⟨by rfl, fun w' h => by go_simp⟩) hS4 ?_
      try simp only [Act.put, List.setIfInBounds_toArray, List.set_cons_zero, List.set_cons_succ]
      refine take_slot (i := 7) (d := 108) (v := .bool true) rfl rfl (by kernel_rfl) (by kernel_rfl) (by kernel_rfl) (fun _ _ _ h => h) (Or.inl ⟨by rfl, fun w' h => by go_simp⟩) hS4 ?_
      try simp only [Act.put, List.setIfInBounds_toArray, List.set_cons_zero, List.set_cons_succ]
      have hG := (hbp.block _ (lt_of_block hzA)).trans hzA
      refine wpAnyH_ready (rs := [9]) (by kernel_rfl) (by simp) ?_
      refine AllReadyH.cons rfl (fun K hK => ?_) AllReadyH.nil
      refine step_store rfl (.tmp 14) (.tmp 107) rfl rfl rfl hG rfl (by simp [Value.oneCell']) ?_
      intro wx hrow6 hg6
      have hbox := ranBox_mk (r := rq) hG o1 o2 o3 hS4 hXle hg6 hrow6
      refine hK.out _ _ (hS4.grown hg6 hS4.size (fun k hk => by cases hk; exact hXle)) (fun hS9 => ?_)
      clear hK K
      try simp only [Act.put, List.getElem_toArray, List.getElem_cons_succ, List.getElem_cons_zero, List.setIfInBounds_toArray, List.set_cons_zero, List.set_cons_succ]
      refine take_slot (i := 10) (d := 15) (v := .bool true) rfl rfl (by kernel_rfl) (by kernel_rfl) (by kernel_rfl) (fun _ _ _ h => h) (Or.inl ⟨by rfl, fun w' h => by go_simp⟩) hS9 ?_
      try simp only [Act.put, List.setIfInBounds_toArray, List.set_cons_zero, List.set_cons_succ]
      refine wpAnyH_done (by kernel_rfl) ?_ _
      go_wp2_with fail
      go_meet
      case rel => exact ⟨XR, rfl, rfl, hbox⟩
    ·refine step_alloc rfl rfl ?_
     intro XR ya hzA hXl hgA
     have hbA : Below x2.drew.heap.size x2.drew ya := (Below.refl _ _).grown hgA (Nat.le_refl _) (fun k hk => by cases hk)
     have hXle : x2.heap.size ≤ XR := Nat.le_trans hS1.size hXl
     refine hK.out _ _ (hS1.trans (hbA.mono hS1.size)) (fun hS2 => ?_)
     clear hK K
     try simp only [Act.put, List.getElem_toArray, List.getElem_cons_succ, List.getElem_cons_zero, List.setIfInBounds_toArray, List.set_cons_zero, List.set_cons_succ]
     refine wpAnyH_ready (rs := [3]) (by kernel_rfl) (by simp) ?_
     refine AllReadyH.cons rfl (fun K hK => ?_) AllReadyH.nil
     go_simp
     refine (HSZ3.out _ hS2).mono ?_
     rintro e y1 ⟨qa, qc, rfl, hq1, hbq⟩
     refine hK.out _ _ (hS2.trans (hbq.mono hS2.size)) (fun hS3 => ?_)
     clear hK K
     try simp only [Act.put, List.setIfInBounds_toArray, List.set_cons_zero, List.set_cons_succ]
     refine wpAnyH_ready (rs := [4]) (by kernel_rfl) (by simp) ?_
     refine AllReadyH.cons rfl (fun K hK => ?_) AllReadyH.nil
     go_simp
     refine (HPX3.out _ qa qc hS3 (ListAt.ofOwn hq1.own)).mono ?_
     rintro e y2 ⟨a1, c1, a2, c2, a3, c3, rfl, o1, o2, o3, hbp⟩
     refine hK.out _ _ (hS3.trans (hbp.mono hS3.size)) (fun hS4 => ?_)
     clear hK K
     try simp only [Act.put, List.setIfInBounds_toArray, List.set_cons_zero, List.set_cons_succ]
     replace o1 := o1.weaken (base' := x2.heap.size) hS3.size
     replace o2 := o2.weaken (base' := x2.heap.size) hS3.size
     replace o3 := o3.weaken (base' := x2.heap.size) hS3.size
     refine take_slot (i := 5) (d := 101) (v := .tuple #[.agg #[.bool (fl rq), .int .i64 (slotOf rq), .slice a1 (payL rq).length c1, .slice a2 (outL rq).length c2, .slice a3 (hasL rq).length c3, .int .i64 (rq.steps : Int)], .bool true]) rfl rfl (by kernel_rfl) (by kernel_rfl) (by kernel_rfl) (fun _ _ _ h => h) (Or.inl ⟨by rfl, fun w' h => by go_simp⟩) hS4 ?_
     try simp only [Act.put, List.setIfInBounds_toArray, List.set_cons_zero, List.set_cons_succ]
     refine take_slot (i := 6) (d := 107) (v := .agg #[.bool (fl rq), .int .i64 (slotOf rq), .slice a1 (payL rq).length c1, .slice a2 (outL rq).length c2, .slice a3 (hasL rq).length c3, .int .i64 (rq.steps : Int)]) rfl rfl (by kernel_rfl) (by kernel_rfl) (by kernel_rfl) (fun _ _ _ h => h) (Or.inl ⟨by rfl, fun w' h => by go_simp⟩) hS4 ?_
     try simp only [Act.put, List.setIfInBounds_toArray, List.set_cons_zero, List.set_cons_succ]
     refine take_slot (i := 7) (d := 108) (v := .bool true) rfl rfl (by kernel_rfl) (by kernel_rfl) (by kernel_rfl) (fun _ _ _ h => h) (Or.inl ⟨by rfl, fun w' h => by go_simp⟩) hS4 ?_
     try simp only [Act.put, List.setIfInBounds_toArray, List.set_cons_zero, List.set_cons_succ]
     have hG := (hbp.block _ (Nat.lt_of_lt_of_le (lt_of_block hzA) hbq.size)).trans ((hbq.block _ (lt_of_block hzA)).trans hzA)
     refine wpAnyH_ready (rs := [9]) (by kernel_rfl) (by simp) ?_
     refine AllReadyH.cons rfl (fun K hK => ?_) AllReadyH.nil
     refine step_store rfl (.tmp 14) (.tmp 107) rfl rfl rfl hG rfl (by simp [Value.oneCell']) ?_
     intro wx hrow6 hg6
     have hbox := ranBox_mk (r := rq) hG o1 o2 o3 hS4 hXle hg6 hrow6
     refine hK.out _ _ (hS4.grown hg6 hS4.size (fun k hk => by cases hk; exact hXle)) (fun hS9 => ?_)
     clear hK K
     try simp only [Act.put, List.getElem_toArray, List.getElem_cons_succ, List.getElem_cons_zero, List.setIfInBounds_toArray, List.set_cons_zero, List.set_cons_succ]
     refine take_slot (i := 10) (d := 15) (v := .bool true) rfl rfl (by kernel_rfl) (by kernel_rfl) (by kernel_rfl) (fun _ _ _ h => h) (Or.inl ⟨by rfl, fun w' h => by go_simp⟩) hS9 ?_
     try simp only [Act.put, List.setIfInBounds_toArray, List.set_cons_zero, List.set_cons_succ]
     refine wpAnyH_done (by kernel_rfl) ?_ _
     go_wp2_with fail
     go_meet
     case rel => exact ⟨XR, rfl, rfl, hbox⟩
   obtain ⟨Y3, rfl, rfl, hbx⟩ := hcut
   obtain ⟨x3, rfl⟩ : ∃ x, x = wc := ⟨_, rfl⟩
   have hbl := hbx.bel
   have HRB3 := Lib.hid hbx
   have HBX4 := Lib.hid (HBX3.out.trans (hbl.mono HBX3.out.size))
   have HBXM4 := Lib.hid (HBXM3.out.below hbl HBXM3.out.blk)
   have HTRN4 := Lib.hid (HTRN3.out.below hbl HTRN3.out.blk)
   have HRB1_3 := Lib.hid (HRB1_2.out.kept hbl)
   have HRB2_3 := Lib.hid (HRB2.out.kept hbl)
   clear hbl hbx HSZ3 HPX3
   go_upto_region 22 with fail
   have HSZ4 := Lib.hid (fun wy (h : Below x3.heap.size x3 wy) => HSIZED.out wy (HBX4.out.trans (h.mono HBX4.out.size)))
   have HPX4 := Lib.hid (fun wy qa qc (h : Below x3.heap.size x3 wy) (hq : ListAt wy qa z ((B.padL pay1 z).map u8V)) => HUN2.out wy qa qc (HBX4.out.trans (h.mono HBX4.out.size)) hq)
   go_cut [16, 17] from 109 to 116 (fun p q wx => ∃ Y : Nat, p = .pointer (some ⟨Y, 0, none⟩) ∧ q = .bool true ∧ RanBox rq Y x3 wx)
   case first =>
    refine wp_region_held_drew (S := Below x3.heap.size x3) (by kernel_rfl) (Below.refl _ _).drew (fun hS1 => ?_)
    refine take_slot (i := 0) (d := 110) (v := .agg (turnC m0 (.slice ca sn0 cc))) rfl rfl (by kernel_rfl) (by kernel_rfl) (by kernel_rfl) (fun _ _ _ h => h) (yieldsIf_load_mid (by rfl) 27 (.tmp 7) rfl X 0 rfl ((turnC m0 (.slice ca sn0 cc)) : Array Value).toList _ (fun w' h => RC.range (HTRN4.out.below h HTRN4.out.blk)) Tryz.underlying27 rfl (by kernel_rfl)) hS1 ?_
    try simp only [Act.put, List.setIfInBounds_toArray, List.set_cons_zero, List.set_cons_succ]
    refine take_slot (i := 1) (d := 111) (v := .agg (msgC m0 (.slice sa0 sn0 sc0))) rfl rfl (by kernel_rfl) (by kernel_rfl) (by kernel_rfl) (fun _ _ _ h => h) (yieldsIf_load_mid (by rfl) 27 (.tmp 3) rfl w.heap.size 0 rfl ((msgC m0 (.slice sa0 sn0 sc0)) : Array Value).toList _ (fun w' h => RC.range (HBXM4.out.below h HBXM4.out.blk)) Tryz.underlying27 rfl (by kernel_rfl)) hS1 ?_
    try simp only [Act.put, List.setIfInBounds_toArray, List.set_cons_zero, List.set_cons_succ]
    refine take_slot (i := 2) (d := 112) (v := .slice pa1 pn1 pc1) rfl rfl (by kernel_rfl) (by kernel_rfl) (by kernel_rfl) (fun _ _ _ h => h) (Or.inl ⟨by rfl, fun w' h => by go_simp⟩) hS1 ?_
    try simp only [Act.put, List.setIfInBounds_toArray, List.set_cons_zero, List.set_cons_succ]
    refine wpAnyH_ready (rs := [3, 8]) (by kernel_rfl) (by simp) ?_
    refine AllReadyH.cons rfl (fun K hK => ?_) (AllReadyH.cons rfl (fun K hK => ?_) AllReadyH.nil)
    ·go_simp
     refine (HSZ4.out _ hS1).mono ?_
     rintro e y1 ⟨qa, qc, rfl, hq1, hbq⟩
     refine hK.out _ _ (hS1.trans (hbq.mono hS1.size)) (fun hS2 => ?_)
     clear hK K
     try simp only [Act.put, List.setIfInBounds_toArray, List.set_cons_zero, List.set_cons_succ]
     refine wpAnyH_ready (rs := [4, 8]) (by kernel_rfl) (by simp) ?_
     refine AllReadyH.cons rfl (fun K hK => ?_) (AllReadyH.cons rfl (fun K hK => ?_) AllReadyH.nil)
     ·go_simp
      refine (HPX4.out _ qa qc hS2 (ListAt.ofOwn hq1.own)).mono ?_
      rintro e y2 ⟨a1, c1, a2, c2, a3, c3, rfl, o1, o2, o3, hbp⟩
      refine hK.out _ _ (hS2.trans (hbp.mono hS2.size)) (fun hS3 => ?_)
      clear hK K
      try simp only [Act.put, List.setIfInBounds_toArray, List.set_cons_zero, List.set_cons_succ]
      replace o1 := o1.weaken (base' := x3.heap.size) hS2.size
      replace o2 := o2.weaken (base' := x3.heap.size) hS2.size
      replace o3 := o3.weaken (base' := x3.heap.size) hS2.size
      refine take_slot (i := 5) (d := 109) (v := .tuple #[.agg #[.bool (fl rq), .int .i64 (slotOf rq), .slice a1 (payL rq).length c1, .slice a2 (outL rq).length c2, .slice a3 (hasL rq).length c3, .int .i64 (rq.steps : Int)], .bool true]) rfl rfl (by kernel_rfl) (by kernel_rfl) (by kernel_rfl) (fun _ _ _ h => h) (Or.inl ⟨by rfl, fun w' h => by go_simp⟩) hS3 ?_
      try simp only [Act.put, List.setIfInBounds_toArray, List.set_cons_zero, List.set_cons_succ]
      refine take_slot (i := 6) (d := 115) (v := .agg #[.bool (fl rq), .int .i64 (slotOf rq), .slice a1 (payL rq).length c1, .slice a2 (outL rq).length c2, .slice a3 (hasL rq).length c3, .int .i64 (rq.steps : Int)]) rfl rfl (by kernel_rfl) (by kernel_rfl) (by kernel_rfl) (fun _ _ _ h => h) (Or.inl ⟨by rfl, fun w' h => by go_simp⟩) hS3 ?_
      try simp only [Act.put, List.setIfInBounds_toArray, List.set_cons_zero, List.set_cons_succ]
      refine take_slot (i := 7) (d := 116) (v := .bool true) rfl rfl (by kernel_rfl) (by kernel_rfl) (by kernel_rfl) (fun _ _ _ h => h) (Or.inl ⟨by rfl, fun w' h => by go_simp⟩) hS3 ?_
      try simp only [Act.put, List.setIfInBounds_toArray, List.set_cons_zero, List.set_cons_succ]
      refine wpAnyH_ready (rs := [8]) (by kernel_rfl) (by simp) ?_
      refine AllReadyH.cons rfl (fun K hK => ?_) AllReadyH.nil
      refine step_alloc rfl rfl ?_
      intro XR ya hzA hXl hgA
      have hbA : Below y2.heap.size y2 ya := (Below.refl _ _).grown hgA (Nat.le_refl _) (fun k hk => by cases hk)
      have hXle : x3.heap.size ≤ XR := Nat.le_trans hS3.size hXl
      refine hK.out _ _ (hS3.trans (hbA.mono hS3.size)) (fun hS4 => ?_)
      clear hK K
      try simp only [Act.put, List.getElem_toArray, List.getElem_cons_succ, List.getElem_cons_zero, List.setIfInBounds_toArray, List.set_cons_zero, List.set_cons_succ]
      replace o1 := o1.kept hbA
      replace o2 := o2.kept hbA
      replace o3 := o3.kept hbA
      have hG := hzA
      refine wpAnyH_ready (rs := [9]) (by kernel_rfl) (by simp) ?_
      refine AllReadyH.cons rfl (fun K hK => ?_) AllReadyH.nil
      refine step_store rfl (.tmp 16) (.tmp 115) rfl rfl rfl hG rfl (by simp [Value.oneCell']) ?_
      intro wx hrow6 hg6
      have hbox := ranBox_mk (r := rq) hG o1 o2 o3 hS4 hXle hg6 hrow6
      refine hK.out _ _ (hS4.grown hg6 hS4.size (fun k hk => by cases hk; exact hXle)) (fun hS9 => ?_)
      clear hK K
      try simp only [Act.put, List.getElem_toArray, List.getElem_cons_succ, List.getElem_cons_zero, List.setIfInBounds_toArray, List.set_cons_zero, List.set_cons_succ]
      refine take_slot (i := 10) (d := 17) (v := .bool true) rfl rfl (by kernel_rfl) (by kernel_rfl) (by kernel_rfl) (fun _ _ _ h => h) (Or.inl ⟨by rfl, fun w' h => by go_simp⟩) hS9 ?_
      try simp only [Act.put, List.setIfInBounds_toArray, List.set_cons_zero, List.set_cons_succ]
      refine wpAnyH_done (by kernel_rfl) ?_ _
      go_wp2_with fail
      go_meet
      case rel => exact ⟨XR, rfl, rfl, hbox⟩
     ·refine step_alloc rfl rfl ?_
      intro XR ya hzA hXl hgA
      have hbA : Below y1.heap.size y1 ya := (Below.refl _ _).grown hgA (Nat.le_refl _) (fun k hk => by cases hk)
      have hXle : x3.heap.size ≤ XR := Nat.le_trans hS2.size hXl
      refine hK.out _ _ (hS2.trans (hbA.mono hS2.size)) (fun hS3 => ?_)
      clear hK K
      try simp only [Act.put, List.getElem_toArray, List.getElem_cons_succ, List.getElem_cons_zero, List.setIfInBounds_toArray, List.set_cons_zero, List.set_cons_succ]
      replace hq1 := hq1.kept hbA
      refine wpAnyH_ready (rs := [4]) (by kernel_rfl) (by simp) ?_
      refine AllReadyH.cons rfl (fun K hK => ?_) AllReadyH.nil
      go_simp
      refine (HPX4.out _ qa qc hS3 (ListAt.ofOwn hq1.own)).mono ?_
      rintro e y2 ⟨a1, c1, a2, c2, a3, c3, rfl, o1, o2, o3, hbp⟩
      refine hK.out _ _ (hS3.trans (hbp.mono hS3.size)) (fun hS4 => ?_)
      clear hK K
      try simp only [Act.put, List.setIfInBounds_toArray, List.set_cons_zero, List.set_cons_succ]
      replace o1 := o1.weaken (base' := x3.heap.size) hS3.size
      replace o2 := o2.weaken (base' := x3.heap.size) hS3.size
      replace o3 := o3.weaken (base' := x3.heap.size) hS3.size
      refine take_slot (i := 5) (d := 109) (v := .tuple #[.agg #[.bool (fl rq), .int .i64 (slotOf rq), .slice a1 (payL rq).length c1, .slice a2 (outL rq).length c2, .slice a3 (hasL rq).length c3, .int .i64 (rq.steps : Int)], .bool true]) rfl rfl (by kernel_rfl) (by kernel_rfl) (by kernel_rfl) (fun _ _ _ h => h) (Or.inl ⟨by rfl, fun w' h => by go_simp⟩) hS4 ?_
      try simp only [Act.put, List.setIfInBounds_toArray, List.set_cons_zero, List.set_cons_succ]
      refine take_slot (i := 6) (d := 115) (v := .agg #[.bool (fl rq), .int .i64 (slotOf rq), .slice a1 (payL rq).length c1, .slice a2 (outL rq).length c2, .slice a3 (hasL rq).length c3, .int .i64 (rq.steps : Int)]) rfl rfl (by kernel_rfl) (by kernel_rfl) (by kernel_rfl) (fun _ _ _ h => h) (Or.inl ⟨by rfl, fun w' h => by go_simp⟩) hS4 ?_
      try simp only [Act.put, List.setIfInBounds_toArray, List.set_cons_zero, List.set_cons_succ]
      refine take_slot (i := 7) (d := 116) (v := .bool true) rfl rfl (by kernel_rfl) (by kernel_rfl) (by kernel_rfl) (fun _ _ _ h => h) (Or.inl ⟨by rfl, fun w' h => by go_simp⟩) hS4 ?_
      try simp only [Act.put, List.setIfInBounds_toArray, List.set_cons_zero, List.set_cons_succ]
      have hG := (hbp.block _ (lt_of_block hzA)).trans hzA
      refine wpAnyH_ready (rs := [9]) (by kernel_rfl) (by simp) ?_
      refine AllReadyH.cons rfl (fun K hK => ?_) AllReadyH.nil
      refine step_store rfl (.tmp 16) (.tmp 115) rfl rfl rfl hG rfl (by simp [Value.oneCell']) ?_
      intro wx hrow6 hg6
      have hbox := ranBox_mk (r := rq) hG o1 o2 o3 hS4 hXle hg6 hrow6
      refine hK.out _ _ (hS4.grown hg6 hS4.size (fun k hk => by cases hk; exact hXle)) (fun hS9 => ?_)
      clear hK K
      try simp only [Act.put, List.getElem_toArray, List.getElem_cons_succ, List.getElem_cons_zero, List.setIfInBounds_toArray, List.set_cons_zero, List.set_cons_succ]
      refine take_slot (i := 10) (d := 17) (v := .bool true) rfl rfl (by kernel_rfl) (by kernel_rfl) (by kernel_rfl) (fun _ _ _ h => h) (Or.inl ⟨by rfl, fun w' h => by go_simp⟩) hS9 ?_
      try simp only [Act.put, List.setIfInBounds_toArray, List.set_cons_zero, List.set_cons_succ]
      refine wpAnyH_done (by kernel_rfl) ?_ _
      go_wp2_with fail
      go_meet
      case rel => exact ⟨XR, rfl, rfl, hbox⟩
    ·refine step_alloc rfl rfl ?_
     intro XR ya hzA hXl hgA
     have hbA : Below x3.drew.heap.size x3.drew ya := (Below.refl _ _).grown hgA (Nat.le_refl _) (fun k hk => by cases hk)
     have hXle : x3.heap.size ≤ XR := Nat.le_trans hS1.size hXl
     refine hK.out _ _ (hS1.trans (hbA.mono hS1.size)) (fun hS2 => ?_)
     clear hK K
     try simp only [Act.put, List.getElem_toArray, List.getElem_cons_succ, List.getElem_cons_zero, List.setIfInBounds_toArray, List.set_cons_zero, List.set_cons_succ]
     refine wpAnyH_ready (rs := [3]) (by kernel_rfl) (by simp) ?_
     refine AllReadyH.cons rfl (fun K hK => ?_) AllReadyH.nil
     go_simp
     refine (HSZ4.out _ hS2).mono ?_
     rintro e y1 ⟨qa, qc, rfl, hq1, hbq⟩
     refine hK.out _ _ (hS2.trans (hbq.mono hS2.size)) (fun hS3 => ?_)
     clear hK K
     try simp only [Act.put, List.setIfInBounds_toArray, List.set_cons_zero, List.set_cons_succ]
     refine wpAnyH_ready (rs := [4]) (by kernel_rfl) (by simp) ?_
     refine AllReadyH.cons rfl (fun K hK => ?_) AllReadyH.nil
     go_simp
     refine (HPX4.out _ qa qc hS3 (ListAt.ofOwn hq1.own)).mono ?_
     rintro e y2 ⟨a1, c1, a2, c2, a3, c3, rfl, o1, o2, o3, hbp⟩
     refine hK.out _ _ (hS3.trans (hbp.mono hS3.size)) (fun hS4 => ?_)
     clear hK K
     try simp only [Act.put, List.setIfInBounds_toArray, List.set_cons_zero, List.set_cons_succ]
     replace o1 := o1.weaken (base' := x3.heap.size) hS3.size
     replace o2 := o2.weaken (base' := x3.heap.size) hS3.size
     replace o3 := o3.weaken (base' := x3.heap.size) hS3.size
     refine take_slot (i := 5) (d := 109) (v := .tuple #[.agg #[.bool (fl rq), .int .i64 (slotOf rq), .slice a1 (payL rq).length c1, .slice a2 (outL rq).length c2, .slice a3 (hasL rq).length c3, .int .i64 (rq.steps : Int)], .bool true]) rfl rfl (by kernel_rfl) (by kernel_rfl) (by kernel_rfl) (fun _ _ _ h => h) (Or.inl ⟨by rfl, fun w' h => by go_simp⟩) hS4 ?_
     try simp only [Act.put, List.setIfInBounds_toArray, List.set_cons_zero, List.set_cons_succ]
     refine take_slot (i := 6) (d := 115) (v := .agg #[.bool (fl rq), .int .i64 (slotOf rq), .slice a1 (payL rq).length c1, .slice a2 (outL rq).length c2, .slice a3 (hasL rq).length c3, .int .i64 (rq.steps : Int)]) rfl rfl (by kernel_rfl) (by kernel_rfl) (by kernel_rfl) (fun _ _ _ h => h) (Or.inl ⟨by rfl, fun w' h => by go_simp⟩) hS4 ?_
     try simp only [Act.put, List.setIfInBounds_toArray, List.set_cons_zero, List.set_cons_succ]
     refine take_slot (i := 7) (d := 116) (v := .bool true) rfl rfl (by kernel_rfl) (by kernel_rfl) (by kernel_rfl) (fun _ _ _ h => h) (Or.inl ⟨by rfl, fun w' h => by go_simp⟩) hS4 ?_
     try simp only [Act.put, List.setIfInBounds_toArray, List.set_cons_zero, List.set_cons_succ]
     have hG := (hbp.block _ (Nat.lt_of_lt_of_le (lt_of_block hzA) hbq.size)).trans ((hbq.block _ (lt_of_block hzA)).trans hzA)
     refine wpAnyH_ready (rs := [9]) (by kernel_rfl) (by simp) ?_
     refine AllReadyH.cons rfl (fun K hK => ?_) AllReadyH.nil
     refine step_store rfl (.tmp 16) (.tmp 115) rfl rfl rfl hG rfl (by simp [Value.oneCell']) ?_
     intro wx hrow6 hg6
     have hbox := ranBox_mk (r := rq) hG o1 o2 o3 hS4 hXle hg6 hrow6
     refine hK.out _ _ (hS4.grown hg6 hS4.size (fun k hk => by cases hk; exact hXle)) (fun hS9 => ?_)
     clear hK K
     try simp only [Act.put, List.getElem_toArray, List.getElem_cons_succ, List.getElem_cons_zero, List.setIfInBounds_toArray, List.set_cons_zero, List.set_cons_succ]
     refine take_slot (i := 10) (d := 17) (v := .bool true) rfl rfl (by kernel_rfl) (by kernel_rfl) (by kernel_rfl) (fun _ _ _ h => h) (Or.inl ⟨by rfl, fun w' h => by go_simp⟩) hS9 ?_
     try simp only [Act.put, List.setIfInBounds_toArray, List.set_cons_zero, List.set_cons_succ]
     refine wpAnyH_done (by kernel_rfl) ?_ _
     go_wp2_with fail
     go_meet
     case rel => exact ⟨XR, rfl, rfl, hbox⟩
   obtain ⟨Y4, rfl, rfl, hbx⟩ := hcut
   obtain ⟨x4, rfl⟩ : ∃ x, x = wc := ⟨_, rfl⟩
   have hbl := hbx.bel
   have HRB4 := Lib.hid hbx
   have HBX5 := Lib.hid (HBX4.out.trans (hbl.mono HBX4.out.size))
   have HBXM5 := Lib.hid (HBXM4.out.below hbl HBXM4.out.blk)
   have HTRN5 := Lib.hid (HTRN4.out.below hbl HTRN4.out.blk)
   have HRB1_4 := Lib.hid (HRB1_3.out.kept hbl)
   have HRB2_4 := Lib.hid (HRB2_3.out.kept hbl)
   have HRB3_4 := Lib.hid (HRB3.out.kept hbl)
   clear hbl hbx HSZ4 HPX4
   obtain rfl := HQ.out
   have HBF := Lib.hid (HB9.out.trans (HBX5.out.mono HB9.out.size))
   obtain ⟨a1, c1, a2, c2, a3, c3, hX1, o1, _, _, _, _⟩ := HRB1_4.out
   obtain ⟨b1, d1, b2, d2, b3, d3, hX2, q1, _, _, _, _⟩ := HRB2_4.out
   obtain ⟨g1, h1, g2, h2, g3, h3, hX3, _, p2, p3, _, _⟩ := HRB3_4.out
   obtain ⟨k1, l1, k2, l2, k3, l3, hX4, _, t2, t3, _, _⟩ := HRB4.out
   have hmax : (payL r).length ≤ 9223372036854775807 := Nat.le_trans o1.capLe o1.capMax
   have c10 : x4.cell? ⟨Y1, 0, none⟩ = some (.bool (fl r)) := hX1.cell (j := 0) rfl
   have c11 : x4.cell? ⟨Y1, 1, none⟩ = some (.int .i64 (slotOf r)) := hX1.cell (j := 1) rfl
   have c12 : x4.cell? ⟨Y1, 2, none⟩ = some (.slice a1 (payL r).length c1) := hX1.cell (j := 2) rfl
   have c20 : x4.cell? ⟨Y2, 0, none⟩ = some (.bool (fl r)) := hX2.cell (j := 0) rfl
   have c21 : x4.cell? ⟨Y2, 1, none⟩ = some (.int .i64 (slotOf r)) := hX2.cell (j := 1) rfl
   have c22 : x4.cell? ⟨Y2, 2, none⟩ = some (.slice b1 (payL r).length d1) := hX2.cell (j := 2) rfl
   have l3n : ∀ (Y : Nat) (C : Nat → Nat → Array Value), RC x4 Y 44 6 (C s2.out.length s2.has.length) → RC x4 Y 44 6 (C sn0 sn0) := fun Y C hC => by
    rw [H2N.out, H2M.out] at hC
    exact hC
   have HX3 := Lib.hid (l3n Y3 (fun a b => #[.bool false, .int .i64 0, .slice g1 s2.pay.length h1, .slice g2 a h2, .slice g3 b h3, .int .i64 (n2 : Int)]) hX3)
   have HX4 := Lib.hid (l3n Y4 (fun a b => #[.bool false, .int .i64 0, .slice k1 s2.pay.length l1, .slice k2 a l2, .slice k3 b l3, .int .i64 (n2 : Int)]) hX4)
   have lo : ∀ (a : Option Addr), ListAt x4 a s2.out.length (s2.out.map u64V) → ListAt x4 a sn0 (s2.out.map u64V) := fun a h => by
    rw [H2N.out] at h
    exact h
   have lh : ∀ (a : Option Addr), ListAt x4 a s2.has.length (s2.has.map Value.bool) → ListAt x4 a sn0 (s2.has.map Value.bool) := fun a h => by
    rw [H2M.out] at h
    exact h
   have HP2 := Lib.hid (lo g2 (ListAt.ofOwn p2.own))
   have HP3 := Lib.hid (lh g3 (ListAt.ofOwn p3.own))
   have HT2 := Lib.hid (lo k2 (ListAt.ofOwn t2.own))
   have HT3' := Lib.hid (lh k3 (ListAt.ofOwn t3.own))
   have hsb := sameBytes_any a1 b1 (payL r).length c1 (payL r).length d1 (payL r) (payL r) x4 (ListAt.ofOwn o1.own) (ListAt.ofOwn q1.own) hmax
   rw [show decide (payL r = payL r) = true from decide_eq_true rfl] at hsb
   have e5 : (fl r == fl r) = true := by simp
   have e6 : (slotOf r == slotOf r) = true := by simp
   clear hX1 hX2 hX3 hX4 o1 q1 p2 p3 t2 t3 hmax l3n lo lh
   go_wp2_with (first
    | (go_at_call 14; refine hsb.mono ?_; rintro e x5 ⟨rfl, hb5⟩; have r3 := HX3.out.below hb5 HX3.out.blk; have r4 := HX4.out.below hb5 HX4.out.blk; have i0 := r3.cell (j := 0) rfl; have i1 := r3.cell (j := 1) rfl; have i2 := r3.cell (j := 2) rfl; have i3 := r3.cell (j := 3) rfl; have i4 := r3.cell (j := 4) rfl; have i5 := r3.cell (j := 5) rfl; have i6 := r4.cell (j := 3) rfl; have i7 := r4.cell (j := 4) rfl; clear r3 r4 c10 c11 c12 c20 c21 c22)
    | (go_at_call 15; refine (same_yes false 0 (n2 : Int) g1 g2 g3 k2 k3 s2.pay.length h1 sn0 h2 h3 l2 l3 s2.out s2.out s2.has _ (HP2.out.below hb5 (Nat.le_refl _)) (HP3.out.below hb5 (Nat.le_refl _)) (HT2.out.below hb5 (Nat.le_refl _)) (HT3'.out.below hb5 (Nat.le_refl _)) (fun _ _ => rfl) (by omega)).mono ?_; rintro e x6 ⟨rfl, hb6⟩))
   go_ret
   exact ⟨rfl, HBF.out.trans ((hb5.mono HBF.out.size).trans (hb6.mono (Nat.le_trans HBF.out.size hb5.size)))⟩

set_option maxRecDepth 100000 in
theorem lifted (os : Os) (started : os.Started) (H : Type) (enc : TypeId × Value → H) :
    ReturnsInHanded {} Tryz.checked os 3 .any (fun w args => (Rows.lowerTurnedSpec.pre enc Tryz.prog Tryz.f3 Rows.lowerTurnedRow.domain false w args ∧ laidMetH Tryz.prog laid3 w) ∧ sizedMet enc Tryz.prog Tryz.f3 (OpenSpec.ofChange Rows.lowerTurnedSpec) false w args)
     (Rows.lowerTurnedSpec.post enc Tryz.prog Tryz.f3 false true false false) := by
 refine returnsInHanded_of_change_and (C := Tryz.checked) (X := fun w _ => laidMetH Tryz.prog laid3 w) (fun _ _ _ hh h => h.of_heap hh) own started (by kernel_rfl) Tryz.func3
  (ChangeSpec.witness_shaped (enc := enc) (C := Tryz.checked) (os := os) (X := fun w _ => laidMetH Tryz.prog laid3 w) false (World.laidAll Tryz.prog os laid3) #[.agg #[.int .i64 0, .int .i64 0, .int .u32 0, .bool false, .string ⟨#[]⟩, .int .i64 0, .string ⟨#[]⟩, .slice none 0 0], .slice none 0 0, .slice none 0 0] 8 (World.laidAll_os _ _ _) (World.shaped_of_ZipB (by kernel_rfl) (by kernel_rfl)) (by kernel_rfl) (by kernel_rfl) (by kernel_rfl) (door_met3 os _)) ?_
 intro W base args ds gs before hval0 hW hcnd hsz0 hL _
 have hval : ∀ (j : Nat) t v, Tryz.f3.params[j]? = some t → args[j]? = some v → Value.okWide Tryz.prog W .any base t v := hval0
 have hsz : (DataW.weightsEach Tryz.prog (Tryz.f3.params.toList ++ Rows.lowerTurnedSpec.plain.varTypes Tryz.prog) (ds ++ gs)).all (· ≤ reachBytes) = true := hsz0
 have hW' := hW
 obtain ⟨p, q, hA0, hV, rfl, hfz, hnd⟩ := hW
 have hA : DataW.TrodAll enc Tryz.prog W 0 (fun _ => true) true Tryz.f3.params.toList args.toList ds p := hA0
 rw [Tryz.params3] at hA hval hsz
 have hA1 := hA
 obtain ⟨v0, vs0, d0, ds0, p0, q0, hargs, rfl, rfl, h0, r0⟩ := trodAll_cons hA
 obtain ⟨v1, vs1, d1, ds1, p1, q1, rfl, rfl, rfl, h1, r1⟩ := trodAll_cons r0
 obtain ⟨v2, vs2, d2, ds2, p2, q2, rfl, rfl, rfl, h2, r2⟩ := trodAll_cons r1
 obtain ⟨rfl, rfl, rfl⟩ := trodAll_nil r2
 obtain rfl : args = #[v0, v1, v2] := by cases args; simp_all
 obtain ⟨rfl, rfl⟩ := trodVars_none hV
 obtain ⟨m0, sa0, sn0, sc0, rfl, hs0, hsl0, hm0⟩ := open_msg (hval 0 27 v0 rfl rfl) h0
 obtain ⟨pa1, pn1, pc1, rfl⟩ := okWide_slice Tryz.underlying28 (hval 1 28 v1 rfl rfl)
 obtain ⟨fuel1, hf1⟩ := h1
 obtain ⟨pay1, hy1, hb1, hyn1, hyl1⟩ := open_bytes hf1
 obtain ⟨ia2, im2, ic2, rfl⟩ := okWide_slice Tryz.underlying29 (hval 2 29 v2 rfl rfl)
 obtain ⟨fuel2, hf2⟩ := h2
 obtain ⟨inp2, hu2, hw2, hun2, hul2⟩ := open_words hf2
 have lt0 := trodAll_lt _ _ _ _ hA1
 clear hA0 hval0 hsz0
 refine (law m0 sa0 sn0 sc0 pa1 pn1 pc1 pay1 ia2 im2 ic2 inp2 W hs0 hsl0 hm0 hy1 hb1 hyn1 hyl1 hu2 hw2 hun2 hul2 (lready_laid3 hL) ).mono fun e W' ⟨he, bel⟩ => ?_
 subst he
 exact ⟨_, rfl, _, _, _, [], _, [], hW', trodAll_mk1 (shut_bool Tryz.underlying4 _), below_trodAll laidOut bel _ _ _ _ (by kernel_rfl) hA1 lt0, rfl, bel.frame _, fun h => by cases h⟩

theorem said : Rows.LowerTurnedSaid :=
 OpenClaim.holds_of_wide 3 Tryz.f3 rfl rfl rfl rfl rfl rfl rfl ⟨rfl, rfl, rfl, rfl, rfl⟩ rfl rfl rfl rfl rfl found Tryz.func3 joined instanced wrapped
  (fun os started H enc _ => lifted os started H enc)

theorem plain (f : FuncId) (fn : Func) (hf : Tryz.pinned.checked.prog.funcNamed "busbar/busbarlaw15.LowerTurned" = some f) (hfn : Tryz.pinned.checked.prog.funcs[f]? = some fn) :
    true = Tryz.pinned.checked.prog.looks [] ∧ ∀ (j : Nat) t, fn.params[j]? = some t → Tryz.pinned.checked.prog.wantsStandIn t = false := by
 obtain rfl : f = 3 := Option.some.inj (found.symm.trans hf) |>.symm
 obtain rfl : fn = Tryz.f3 := (Option.some.inj (Tryz.func3.symm.trans hfn)).symm
 refine ⟨by kernel_rfl, fun j t ht => ?_⟩
 rw [Tryz.params3] at ht
 have hm : t ∈ ([27, 28, 29] : List TypeId) := by simpa using Array.mem_of_getElem? ht
 have hall : (([27, 28, 29] : List TypeId).all fun u => !Tryz.prog.wantsStandIn u) = true := by kernel_rfl
 exact (show Tryz.prog.wantsStandIn t = false by simpa using List.all_eq_true.1 hall t hm)

theorem card : Rows.LowerTurnedCardSaid :=
 Claim7.holds_tied_plain_at .later [] _ _ _ _ said (fun _ h => by cases h) (by kernel_rfl) (fun _ h => by cases h) lowerTurned_row_tie rfl ⟨rfl, rfl⟩ (by kernel_rfl) rfl plain (by kernel_rfl)
#print axioms card

end LawLowerTurned
end Go.Proofs.YtdpjbnjlognmeaaGreatDoor
