/- Package law15: the runs of the programs of a message that may be; the example's run. -/
import Derived.Test.YtdpjbnjlognmeaaGreatDoorLyC
import Derived.Test.YtdpjbnjlognmeaaGreatDoorLyB
import Derived.Test.YtdpjbnjlognmeaaGreatDoorLyE
namespace Go.Proofs.YtdpjbnjlognmeaaGreatDoor
open Go.RowKit

namespace Code

/-- a truth is answered -/
def BoolOut (b : Bool) (w : World) (r : Ending) (w' : World) : Prop := r = .returned (.bool b) ∧ Below w.heap.size w w'

theorem wf_rightL {x : B.Ins} (h : x.right = true) : x.Wf := by
 have := B.right_bounds h
 refine ⟨⟨?_, ?_⟩, ⟨?_, ?_⟩, ⟨?_, ?_⟩, ⟨?_, ?_⟩, ⟨?_, ?_⟩⟩ <;> omega

attribute [local go_sem ↓] Go.wp_at_zero Go.wp_at_succ

theorem MsgWf.ok {m : B.Msg} (hm : MsgWf m) (h0 : m.no.1 = 0) : m.Ok := B.Msg.ok_of h0 (fun s hs => (hm.sigs s hs).branch)

theorem packed_ok (m : B.Msg) (sa pa va : Option Addr) (n cap pn pc vn vc : Nat) (pay inp : List Nat) (w : World) (hm : MsgWf m) (hs : SigsAt w sa n m.sigs) (hU : UTabs w) (hT : Tabs w) (h0 : m.no.1 = 0) (hpn : (pn : Int) = m.size) (hvn : vn = n)
    (hpay : ListAt w pa pn (pay.map u8V)) (hinp : ListAt w va vn (inp.map u64V)) (hby : B.Bytes pay) (hwi : B.Words inp) :
    Calls Tryz.prog 11 #[.agg (msgC m (.slice sa n cap)), .slice pa pn pc, .slice va vn vc] w (RanUni (B.run m.packI inp 0 (B.start pay m.sigs.length)) w) := by
 have hok := hm.ok h0
 have hmay : B.MayRun m.packI (pn : Int) (vn : Int) := by rw [hpn, hvn, hs.len]; exact hok.pack_may
 have := packed_any m sa pa va n cap pn pc vn vc pay inp w hm hs hU hT h0 (fun y hy => wf_rightL (hmay.ok.mem y hy)) (by have := hmay.len; omega) hmay hpay hinp hby hwi
 rw [show vn = m.sigs.length from hvn.trans hs.len] at this ⊢
 exact this

theorem unpacked_ok (m : B.Msg) (sa pa : Option Addr) (n cap pn pc : Nat) (pay : List Nat) (w : World) (hm : MsgWf m) (hs : SigsAt w sa n m.sigs) (hU : UTabs w) (hT : Tabs w) (h0 : m.no.1 = 0) (hpn : (pn : Int) = m.size)
    (hpay : ListAt w pa pn (pay.map u8V)) (hby : B.Bytes pay) :
    Calls Tryz.prog 13 #[.agg (msgC m (.slice sa n cap)), .slice pa pn pc] w (RanUni (B.run m.unpackI (List.replicate m.sigs.length 77) 0 (B.start pay m.sigs.length)) w) := by
 have hok := hm.ok h0
 have hmay : B.MayRun m.unpackI (pn : Int) (n : Int) := by rw [hpn, hs.len]; exact hok.unpack_may
 have := unpacked_any m sa pa n cap pn pc pay w hm hs hU hT h0 (fun y hy => wf_rightL (hmay.ok.mem y hy)) (by have := hmay.len; omega) hmay hpay hby
 rw [hs.len] at this ⊢
 exact this

/-- a run, with its lists in rows of the call's own -/
def RanTold (f : Bool) (sl : Int) (pay out : List Nat) (has : List Bool) (st : Nat) (w : World) (e : Ending) (w' : World) : Prop :=
 ∃ a1 c1 a2 c2 a3 c3, e = .returned (.tuple #[.agg #[.bool f, .int .i64 sl, .slice a1 pay.length c1, .slice a2 out.length c2, .slice a3 has.length c3, .int .i64 (st : Int)], .bool true]) ∧
  One.OwnV 5 w' w.heap.size a1 pay.length c1 (pay.map u8V) ∧ One.OwnV 35 w' w.heap.size a2 out.length c2 (out.map u64V) ∧ One.OwnV 4 w' w.heap.size a3 has.length c3 (has.map Value.bool) ∧ Below w.heap.size w w'

theorem RanUni.ok {r : B.Out} {w w' : World} {e : Ending} (h : RanUni r w e w') (hf : r.failed = none) : RanTold false 0 r.st.pay r.st.out r.st.has r.steps w e w' := by
 unfold RanUni fl slotOf payL outL hasL at h
 rw [hf] at h
 exact h
theorem RanUni.no {r : B.Out} {w w' : World} {e : Ending} {k : Int} (h : RanUni r w e w') (hf : r.failed = some k) : RanTold true k [] [] [] r.steps w e w' := by
 unfold RanUni fl slotOf payL outL hasL at h
 rw [hf] at h
 exact h

theorem wf_exL : MsgWf B.exL := by
 refine ⟨by unfold B.In64; decide, by unfold B.In64; decide, by decide, by decide, by unfold B.In64; decide, by decide, fun s hs => ?_⟩
 simp only [B.exL, B.exS, List.mem_cons, List.not_mem_nil, or_false] at hs
 have ha : ∀ t ∈ [(⟨#[65]⟩ : ByteArray)], t.size ≤ 9223372036854775807 := fun t ht => by obtain rfl := List.mem_singleton.1 ht; decide
 rcases hs with rfl | rfl | rfl | rfl
 all_goals exact ⟨by unfold B.In64; decide, by unfold B.In64; decide, by decide, by unfold B.In64; decide, by unfold B.InU64; decide, by unfold B.In64; decide, by unfold B.In64; decide, ⟨by unfold B.In64; decide, by unfold B.In64; decide⟩, ⟨by unfold B.In64; decide, by unfold B.In64; decide⟩, ⟨by unfold B.In64; decide, by unfold B.In64; decide⟩, ⟨by unfold B.In64; decide, by unfold B.In64; decide⟩, by decide, ha⟩

theorem OwnSg.exSigs {w : World} {base g b1 b2 b3 b4 : Nat} (h : OwnSg w base (some ⟨g, 0, none⟩) 4 4 (exP b1 b2 b3 b4)) : SigsAt w (some ⟨g, 0, none⟩) 4 B.exL.sigs := h.sigsAt

set_option maxRecDepth 100000 in
set_option maxHeartbeats 6400000 in
theorem works15_any (w : World) (hU : UTabs w) (hT : Tabs w) : Calls Tryz.prog 7 #[] w (BoolOut true w) := by
 have HU := Lib.hid hU
 have HT := Lib.hid hT
 clear hU hT
 go_enter Tryz.func7, Tryz.ntmps7
 go_wp2_with (go_at_call 28; refine (example_any _).mono ?_; rintro e w1 ⟨g, b1, b2, b3, b4, rfl, hown, hb1⟩)
 have hA := (listAt_new ([255, 255].map u8V) #[.int .u8 255, .int .u8 255] 2 w1.heap.size 5 w1 rfl rfl rfl).below (w' := (w1.alloc (.cells #[.int .u8 255, .int .u8 255] 5)).alloc (.cells #[.int .u64 2, .int .u64 99, .int .u64 165, .int .u64 0] 35)) ((Below.refl _ _).alloc (Nat.le_refl _) _) (Nat.le_refl _)
 have hB := listAt_new ([2, 99, 165, 0].map u64V) #[.int .u64 2, .int .u64 99, .int .u64 165, .int .u64 0] 4 (w1.heap.size + 1) 35 (w1.alloc (.cells #[.int .u8 255, .int .u8 255] 5)) rfl rfl (by simp)
 have hb3 : Below w1.heap.size w1 ((w1.alloc (.cells #[.int .u8 255, .int .u8 255] 5)).alloc (.cells #[.int .u64 2, .int .u64 99, .int .u64 165, .int .u64 0] 35)) := ((Below.refl _ _).alloc (Nat.le_refl _) _).alloc (by simp) _
 have hs3 := hown.exSigs.below hb3 (Nat.le_refl _)
 have hb03 := hb1.trans (hb3.mono hb1.size)
 generalize ((w1.alloc (.cells #[.int .u8 255, .int .u8 255] 5)).alloc (.cells #[.int .u64 2, .int .u64 99, .int .u64 165, .int .u64 0] 35)) = w3 at *
 have hpk := packed_ok B.exL (some ⟨g, 0, none⟩) (some ⟨w1.heap.size, 0, none⟩) (some ⟨w1.heap.size + 1, 0, none⟩) 4 4 2 2 4 4 [255, 255] [2, 99, 165, 0] w3 wf_exL hs3 (HU.out.below hb03 (Nat.le_refl _)) (HT.out.below hb03 (Nat.le_refl _)) (by rw [B.exL_eq, B.ex_no]) rfl rfl hA hB (by unfold B.Bytes; decide) (by unfold B.Words; decide)
 obtain ⟨r, hr⟩ : ∃ r, B.run B.exL.packI [2, 99, 165, 0] 0 (B.start [255, 255] B.exL.sigs.length) = r := ⟨_, rfl⟩
 have hex : r.failed = none ∧ r.st.pay = [2, 165] := by
  rw [← hr, B.exL_eq]
  exact B.ex_works
 rw [hr] at hpk
 replace hpk := hpk.mono fun e w' h => h.ok hex.1
 rw [hex.2] at hpk
 have HU3 := Lib.hid (HU.out.below hb03 (Nat.le_refl _))
 have HB03 := Lib.hid hb03
 have hz3 : w1.heap.size + 1 < w3.heap.size := by obtain ⟨b, o, e, hlt, _⟩ := hB.at_ 0 _ rfl; injection e with e; injection e with e _ _; omega
 clear hr hex hA hB hb3 hs3 hb03 hown hb1 HU HT
 go_wp2_with (go_at_call 11; refine hpk.mono ?_; rintro e w4 ⟨a1, c1, a2, c2, a3, c3, rfl, o1, o2, o3, hb4⟩)
 have hX := (ListAt.ofOwn o1.own).below (w' := (w4.alloc (.cells #[.bool false, .int .i64 0, .slice a1 2 c1, .slice a2 r.st.out.length c2, .slice a3 r.st.has.length c3, .int .i64 (r.steps : Int)] 44)).alloc (.cells #[.int .u8 2, .int .u8 165] 5)) (((Below.refl _ _).alloc (Nat.le_refl _) _).alloc (by simp) _) (Nat.le_refl _)
 have hY := listAt_new ([2, 165].map u8V) #[.int .u8 2, .int .u8 165] 2 (w4.heap.size + 1) 5 (w4.alloc (.cells #[.bool false, .int .i64 0, .slice a1 2 c1, .slice a2 r.st.out.length c2, .slice a3 r.st.has.length c3, .int .i64 (r.steps : Int)] 44)) rfl rfl (by simp)
 have hb6 : Below w4.heap.size w4 ((w4.alloc (.cells #[.bool false, .int .i64 0, .slice a1 2 c1, .slice a2 r.st.out.length c2, .slice a3 r.st.has.length c3, .int .i64 (r.steps : Int)] 44)).alloc (.cells #[.int .u8 2, .int .u8 165] 5)) := ((Below.refl _ _).alloc (Nat.le_refl _) _).alloc (by simp) _
 have HB6 := Lib.hid (HB03.out.trans ((hb4.mono HB03.out.size).trans (hb6.mono (Nat.le_trans HB03.out.size hb4.size))))
 generalize ((w4.alloc (.cells #[.bool false, .int .i64 0, .slice a1 2 c1, .slice a2 r.st.out.length c2, .slice a3 r.st.has.length c3, .int .i64 (r.steps : Int)] 44)).alloc (.cells #[.int .u8 2, .int .u8 165] 5)) = w6 at *
 have hsame := sameBytes_any a1 (some ⟨w4.heap.size + 1, 0, none⟩) 2 c1 2 2 [2, 165] [2, 165] w6 hX hY (by omega)
 clear hX hY hb6 hb4 o1 o2 o3 hpk
 go_wp2_with (go_at_call 14; refine hsame.mono ?_; rintro e w7 ⟨rfl, hb7⟩)
 go_ret
 exact ⟨rfl, HB6.out.trans (hb7.mono HB6.out.size)⟩

end Code
end Go.Proofs.YtdpjbnjlognmeaaGreatDoor
