/- Package law15: the example's runs, at inputs whose runs are known. -/
import Derived.Test.YtdpjbnjlognmeaaGreatDoorLyM
namespace Go.Proofs.YtdpjbnjlognmeaaGreatDoor
open Go.RowKit

namespace Code

attribute [local go_sem ↓] Go.wp_at_zero Go.wp_at_succ

/-- a run's telling, its lists' lengths written out -/
def RanAt (f : Bool) (sl : Int) (pay out : List Nat) (has : List Bool) (st np no nh : Nat) (w : World) (e : Ending) (w' : World) : Prop :=
 ∃ a1 c1 a2 c2 a3 c3, e = .returned (.tuple #[.agg #[.bool f, .int .i64 sl, .slice a1 np c1, .slice a2 no c2, .slice a3 nh c3, .int .i64 (st : Int)], .bool true]) ∧
  One.OwnV 5 w' w.heap.size a1 np c1 (pay.map u8V) ∧ One.OwnV 35 w' w.heap.size a2 no c2 (out.map u64V) ∧ One.OwnV 4 w' w.heap.size a3 nh c3 (has.map Value.bool) ∧ Below w.heap.size w w'

theorem RanTold.atL {f : Bool} {sl : Int} {pay out : List Nat} {has : List Bool} {st np no nh : Nat} {w w' : World} {e : Ending} (h : RanTold f sl pay out has st w e w') (h1 : pay.length = np) (h2 : out.length = no) (h3 : has.length = nh) : RanAt f sl pay out has st np no nh w e w' := by
 unfold RanTold at h
 rw [h1, h2, h3] at h
 exact h

theorem ex_len : B.exL.sigs.length = 4 := rfl
theorem ex_no0 : B.exL.no.1 = 0 := by rw [B.exL_eq, B.ex_no]

set_option maxRecDepth 100000 in
set_option maxHeartbeats 6400000 in
theorem is_yes (va wa : Option Addr) (vc wc : Nat) (inp want : List Nat) (w : World) (hU : UTabs w) (hT : Tabs w) (hv : ListAt w va 4 (inp.map u64V)) (hw : ListAt w wa 2 (want.map u8V)) (hwi : B.Words inp) (hex : (B.run B.exM.packI inp 0 (B.start [255, 255] 4)).failed = none ∧ (B.run B.exM.packI inp 0 (B.start [255, 255] 4)).st.pay = want) :
    Calls Tryz.prog 18 #[.slice va 4 vc, .slice wa 2 wc] w (BoolOut true w) := by
 have HU := Lib.hid hU
 have HT := Lib.hid hT
 have HV := Lib.hid hv
 have HWI := Lib.hid hwi
 clear hU hT hv hwi
 have hwant : 2 = want.length := by have := hw.len; simpa using this
 have HW := Lib.hid hw
 have HEX := Lib.hid hex
 have HWA := Lib.hid hwant
 clear hw hex hwant
 go_enter Tryz.func18, Tryz.ntmps18
 go_wp2_with (go_at_call 28; refine (example_any _).mono ?_; rintro e w1 ⟨g, b1, b2, b3, b4, rfl, hown, hb1⟩)
 have hA := listAt_new ([255, 255].map u8V) #[.int .u8 255, .int .u8 255] 2 w1.heap.size 5 w1 rfl rfl rfl
 have hb3 : Below w1.heap.size w1 (w1.alloc (.cells #[.int .u8 255, .int .u8 255] 5)) := (Below.refl _ _).alloc (Nat.le_refl _) _
 have hs3 := hown.exSigs.below hb3 (Nat.le_refl _)
 have hb03 := hb1.trans (hb3.mono hb1.size)
 generalize w1.alloc (.cells #[.int .u8 255, .int .u8 255] 5) = w3 at *
 have hpk := packed_ok B.exL (some ⟨g, 0, none⟩) (some ⟨w1.heap.size, 0, none⟩) va 4 4 2 2 4 vc [255, 255] inp w3 wf_exL hs3 (HU.out.below hb03 (Nat.le_refl _)) (HT.out.below hb03 (Nat.le_refl _)) ex_no0 rfl rfl hA (HV.out.below hb03 (Nat.le_refl _)) (by unfold B.Bytes; decide) HWI.out
 obtain ⟨r, hr⟩ : ∃ r, B.run B.exL.packI inp 0 (B.start [255, 255] B.exL.sigs.length) = r := ⟨_, rfl⟩
 have hex : r.failed = none ∧ r.st.pay = want := by
  rw [← hr, B.exL_eq]
  exact HEX.out
 rw [hr] at hpk
 replace hpk := hpk.mono fun e w' h => (RanTold.atL (h.ok hex.1) (np := 2) (by rw [hex.2]; exact HWA.out.symm) rfl rfl)
 rw [hex.2] at hpk
 have HB03 := Lib.hid hb03
 clear hr hex hA hb3 hs3 hb03 hown hb1 HU HT HV HEX HWA
 go_wp2_with (go_at_call 11; refine hpk.mono ?_; rintro e w4 ⟨a1, c1, a2, c2, a3, c3, rfl, o1, o2, o3, hb4⟩)
 have hb45 : Below w4.heap.size w4 (w4.alloc (.cells #[.bool false, .int .i64 0, .slice a1 2 c1, .slice a2 r.st.out.length c2, .slice a3 r.st.has.length c3, .int .i64 (r.steps : Int)] 44)) := (Below.refl _ _).alloc (Nat.le_refl _) _
 have hX := (ListAt.ofOwn o1.own).below hb45 (Nat.le_refl _)
 have hb5 := HB03.out.trans ((hb4.mono HB03.out.size).trans (hb45.mono (Nat.le_trans HB03.out.size hb4.size)))
 have HB5 := Lib.hid hb5
 generalize w4.alloc (.cells #[.bool false, .int .i64 0, .slice a1 2 c1, .slice a2 r.st.out.length c2, .slice a3 r.st.has.length c3, .int .i64 (r.steps : Int)] 44) = w5 at *
 have hsame := sameBytes_any a1 wa 2 c1 2 wc want want w5 hX (HW.out.below hb5 (Nat.le_refl _)) (by omega)
 rw [show decide (want = want) = true from decide_eq_true rfl] at hsame
 clear hX hb45 hb5 hb4 o1 o2 o3 hpk
 go_wp2_with (go_at_call 14; refine hsame.mono ?_; rintro e w7 ⟨rfl, hb7⟩)
 go_ret
 exact ⟨rfl, HB5.out.trans (hb7.mono HB5.out.size)⟩

set_option maxRecDepth 100000 in
set_option maxHeartbeats 6400000 in
theorem fails_yes (va : Option Addr) (vc : Nat) (sl : Int) (inp : List Nat) (w : World) (hU : UTabs w) (hT : Tabs w) (hv : ListAt w va 4 (inp.map u64V)) (hwi : B.Words inp) (hex : (B.run B.exM.packI inp 0 (B.start [0, 0] 4)).failed = some sl) :
    Calls Tryz.prog 19 #[.slice va 4 vc, .int .i64 sl] w (BoolOut true w) := by
 have HU := Lib.hid hU
 have HT := Lib.hid hT
 have HV := Lib.hid hv
 have HWI := Lib.hid hwi
 clear hU hT hv hwi
 have HEX := Lib.hid hex
 clear hex
 go_enter Tryz.func19, Tryz.ntmps19
 go_wp2_with (go_at_call 28; refine (example_any _).mono ?_; rintro e w1 ⟨g, b1, b2, b3, b4, rfl, hown, hb1⟩)
 have hA := listAt_new ([0, 0].map u8V) #[.int .u8 0, .int .u8 0] 2 w1.heap.size 5 w1 rfl rfl rfl
 have hb3 : Below w1.heap.size w1 (w1.alloc (.cells #[.int .u8 0, .int .u8 0] 5)) := (Below.refl _ _).alloc (Nat.le_refl _) _
 have hs3 := hown.exSigs.below hb3 (Nat.le_refl _)
 have hb03 := hb1.trans (hb3.mono hb1.size)
 generalize w1.alloc (.cells #[.int .u8 0, .int .u8 0] 5) = w3 at *
 have hpk := packed_ok B.exL (some ⟨g, 0, none⟩) (some ⟨w1.heap.size, 0, none⟩) va 4 4 2 2 4 vc [0, 0] inp w3 wf_exL hs3 (HU.out.below hb03 (Nat.le_refl _)) (HT.out.below hb03 (Nat.le_refl _)) ex_no0 rfl rfl hA (HV.out.below hb03 (Nat.le_refl _)) (by unfold B.Bytes; decide) HWI.out
 obtain ⟨r, hr⟩ : ∃ r, B.run B.exL.packI inp 0 (B.start [0, 0] B.exL.sigs.length) = r := ⟨_, rfl⟩
 have hex : r.failed = some sl := by
  rw [← hr, B.exL_eq]
  exact HEX.out
 rw [hr] at hpk
 replace hpk := hpk.mono fun e w' h => h.no hex
 have HB03 := Lib.hid hb03
 have e5 : (sl == sl) = true := by simp
 clear hr hex hA hb3 hs3 hb03 hown hb1 HU HT HV HEX
 go_wp2_with (go_at_call 11; refine hpk.mono ?_; rintro e w4 ⟨a1, c1, a2, c2, a3, c3, rfl, o1, o2, o3, hb4⟩)
 go_ret
 exact ⟨by simp, (HB03.out.trans (hb4.mono HB03.out.size)).alloc (Nat.le_trans HB03.out.size hb4.size) _⟩

set_option maxRecDepth 100000 in
set_option maxHeartbeats 6400000 in
theorem reads_yes (pa oa ha : Option Addr) (pc oc hc : Nat) (pay out : List Nat) (has : List Bool) (w : World) (hU : UTabs w) (hT : Tabs w) (hp : ListAt w pa 2 (pay.map u8V)) (ho : ListAt w oa 4 (out.map u64V)) (hh : ListAt w ha 4 (has.map Value.bool)) (hby : B.Bytes pay)
    (hex : (B.run B.exM.unpackI (List.replicate 4 77) 0 (B.start pay 4)).failed = none ∧ (B.run B.exM.unpackI (List.replicate 4 77) 0 (B.start pay 4)).st.has = has ∧ (B.run B.exM.unpackI (List.replicate 4 77) 0 (B.start pay 4)).st.out.length = 4 ∧ ∀ k, has.getD k false = true → (B.run B.exM.unpackI (List.replicate 4 77) 0 (B.start pay 4)).st.out.getD k 0 = out.getD k 0) :
    Calls Tryz.prog 20 #[.slice pa 2 pc, .slice oa 4 oc, .slice ha 4 hc] w (BoolOut true w) := by
 have hlh : has.length = 4 := by have := hh.len; simp at this; exact this.symm
 have HU := Lib.hid hU
 have HT := Lib.hid hT
 have HP := Lib.hid hp
 have HO := Lib.hid ho
 have HH := Lib.hid hh
 have HBY := Lib.hid hby
 have HEX := Lib.hid hex
 have HLH := Lib.hid hlh
 clear hU hT hp ho hh hby hex hlh
 go_enter Tryz.func20, Tryz.ntmps20
 go_wp2_with (go_at_call 28; refine (example_any _).mono ?_; rintro e w1 ⟨g, b1, b2, b3, b4, rfl, hown, hb1⟩)
 have hun := unpacked_ok B.exL (some ⟨g, 0, none⟩) pa 4 4 2 pc pay w1 wf_exL hown.exSigs (HU.out.below hb1 (Nat.le_refl _)) (HT.out.below hb1 (Nat.le_refl _)) ex_no0 rfl (HP.out.below hb1 (Nat.le_refl _)) HBY.out
 obtain ⟨r, hr⟩ : ∃ r, B.run B.exL.unpackI (List.replicate B.exL.sigs.length 77) 0 (B.start pay B.exL.sigs.length) = r := ⟨_, rfl⟩
 have hex : r.failed = none ∧ r.st.has = has ∧ r.st.out.length = 4 ∧ ∀ k, has.getD k false = true → r.st.out.getD k 0 = out.getD k 0 := by
  rw [← hr, B.exL_eq]
  exact HEX.out
 rw [hr] at hun
 replace hun := hun.mono fun e w' h => (RanTold.atL (h.ok hex.1) (no := 4) (nh := 4) rfl hex.2.2.1 (by rw [hex.2.1]; exact HLH.out))
 rw [hex.2.1] at hun
 have HC := Lib.hid hex.2.2.2
 have HB1 := Lib.hid hb1
 clear hr hex hown hb1 HU HT HP HEX HBY HLH
 go_wp2_with (go_at_call 13; refine hun.mono ?_; rintro e w4 ⟨a1, c1, a2, c2, a3, c3, rfl, o1, o2, o3, hb4⟩)
 have hb45 : Below w4.heap.size w4 (w4.alloc (.cells #[.bool false, .int .i64 0, .slice a1 r.st.pay.length c1, .slice a2 4 c2, .slice a3 4 c3, .int .i64 (r.steps : Int)] 44)) := (Below.refl _ _).alloc (Nat.le_refl _) _
 have hbox := RC.new #[.bool false, .int .i64 0, .slice a1 r.st.pay.length c1, .slice a2 4 c2, .slice a3 4 c3, .int .i64 (r.steps : Int)] 44 w4 (n := 6) rfl rfl
 obtain ⟨Y, hY⟩ : ∃ Y, w4.heap.size = Y := ⟨_, rfl⟩
 have hX := (ListAt.ofOwn o2.own).below hb45 (Nat.le_refl _)
 have hZ := (ListAt.ofOwn o3.own).below hb45 (Nat.le_refl _)
 have hb5 := HB1.out.trans ((hb4.mono HB1.out.size).trans (hb45.mono (Nat.le_trans HB1.out.size hb4.size)))
 have HB5 := Lib.hid hb5
 obtain ⟨w5, hw5⟩ : ∃ w5, w4.alloc (.cells #[.bool false, .int .i64 0, .slice a1 r.st.pay.length c1, .slice a2 4 c2, .slice a3 4 c3, .int .i64 (r.steps : Int)] 44) = w5 := ⟨_, rfl⟩
 rw [hw5] at hbox hX hZ hb5
 have HB5 := Lib.hid hb5
 try rw [hw5]
 have hsame := same_yes false 0 (r.steps : Int) a1 a2 a3 oa ha r.st.pay.length c1 4 c2 c3 oc hc r.st.out out has w5 hX hZ (HO.out.below hb5 (Nat.le_refl _)) (HH.out.below hb5 (Nat.le_refl _)) HC.out (by omega)
 rw [hY] at hbox
 try rw [hY]
 have i0 := hbox.cell (j := 0) rfl
 have i1 := hbox.cell (j := 1) rfl
 have i2 := hbox.cell (j := 2) rfl
 have i3 := hbox.cell (j := 3) rfl
 have i4 := hbox.cell (j := 4) rfl
 have i5 := hbox.cell (j := 5) rfl
 clear hbox hX hZ hb5 hb45 hb4 o1 o2 o3 hun hw5 hY
 go_wp2_with (go_at_call 15; refine hsame.mono ?_; rintro e w7 ⟨rfl, hb7⟩)
 go_ret
 exact ⟨rfl, HB5.out.trans (hb7.mono HB5.out.size)⟩

end Code
end Go.Proofs.YtdpjbnjlognmeaaGreatDoor
