/- Package law15: what the unpack program of a message comes to. -/
import Derived.Test.YtdpjbnjlognmeaaGreatDoorLxR
namespace Go.Proofs.YtdpjbnjlognmeaaGreatDoor
open Go.RowKit

namespace Code

attribute [local go_sem ↓] Go.wp_at_zero Go.wp_at_succ

theorem words77 (n : Nat) : B.Words (List.replicate n 77) := fun b hb => by rw [List.eq_of_mem_replicate hb]; decide

set_option maxRecDepth 100000 in
set_option maxHeartbeats 6400000 in
theorem unpacked_any (m : B.Msg) (sa pa : Option Addr) (n cap pn pc : Nat) (pay : List Nat) (w : World) (hm : MsgWf m) (hs : SigsAt w sa n m.sigs) (hU : UTabs w) (hT : Tabs w) (h0 : m.no.1 = 0)
    (hwf : ∀ y ∈ m.unpackI, y.Wf) (hr : m.unpackI.length ≤ 9223372036854775807) (hmay : B.MayRun m.unpackI pn n) (hpay : ListAt w pa pn (pay.map u8V)) (hby : B.Bytes pay) :
    Calls Tryz.prog 13 #[.agg (msgC m (.slice sa n cap)), .slice pa pn pc] w (RanUni (B.run m.unpackI (List.replicate n 77) 0 (B.start pay n)) w) := by
 have hn64 : n ≤ 64 := by rw [hs.len]; exact (head_len (B.Msg.no_zero h0).1).1
 have hrow := RC.new (msgC m (.slice sa n cap)) 27 w (n := 8) rfl rfl
 have hbel : Below w.heap.size w (w.alloc (.cells (msgC m (.slice sa n cap)) 27)) := (Below.refl _ _).alloc (Nat.le_refl _) _
 obtain ⟨w1, hw1⟩ : ∃ w1, w.alloc (.cells (msgC m (.slice sa n cap)) 27) = w1 := ⟨_, rfl⟩
 rw [hw1] at hrow hbel
 have hb12 : Below w1.heap.size w1 (w1.alloc (.cells #[.bool false, .int .i64 0, .slice none 0 0, .slice none 0 0, .slice none 0 0, .int .i64 0] 44)) := (Below.refl _ _).alloc (Nat.le_refl _) _
 have hresr := RC.new #[.bool false, .int .i64 0, .slice none 0 0, .slice none 0 0, .slice none 0 0, .int .i64 0] 44 w1 (n := 6) rfl rfl
 have hres := heap_alloc_new w1 (.cells #[.bool false, .int .i64 0, .slice none 0 0, .slice none 0 0, .slice none 0 0, .int .i64 0] 44)
 obtain ⟨w2, hw2⟩ : ∃ w2, w1.alloc (.cells #[.bool false, .int .i64 0, .slice none 0 0, .slice none 0 0, .slice none 0 0, .int .i64 0] 44) = w2 := ⟨_, rfl⟩
 rw [hw2] at hb12 hres hresr
 have hrow2 := hrow.below hb12 hrow.blk
 have hrr := RC.range hrow2
 have hb2 : Below w.heap.size w w2 := hbel.trans (hb12.mono hbel.size)
 have hpack := unpack_yes m sa n cap w2 hm (hs.below hb2 (Nat.le_refl _)) (hU.below hb2 (Nat.le_refl _)) h0
 have HB2 := Lib.hid hb2
 have HXW : Hid (w.heap.size ≤ w1.heap.size) := Lib.hid hbel.size
 have HRESR := Lib.hid hresr
 have HRESB := Lib.hid hres
 have HROW2 := Lib.hid hrow2
 have HWF := Lib.hid hwf
 have HMAY := Lib.hid hmay
 have HPAY := Lib.hid (hpay.below hb2 (Nat.le_refl _))
 have HTT := Lib.hid (hT.below hb2 (Nat.le_refl _))
 have HBY := Lib.hid hby
 have HR := Lib.hid hr
 clear hrow hrow2 hbel hb12 hb2 hres hresr hwf hmay hpay hby hm hs hU hT h0 hr
 go_enter Tryz.func13, Tryz.ntmps13
 go_upto_region 1 with fail
 try rw [hw1]
 try rw [hw2]
 clear hw1 hw2
 go_upto_region 4 with (first
  | refine wpList_load_mid (by rfl) 27 _ (by rfl) w.heap.size 0 (by rfl) (msgC m (.slice sa n cap)).toList _ hrr Tryz.underlying27 (by rfl) (by kernel_rfl) ?_
  | (go_at_call 37; refine hpack.mono ?_; rintro e w3 ⟨a3, c3, rfl, hown3, hb3⟩))
 have HOWN3 := Lib.hid hown3
 have HROW3 := Lib.hid (HROW2.out.below hb3 HROW2.out.blk)
 have HB3 := Lib.hid hb3
 clear hown3 hb3 hrr HROW2 hpack
 go_wp2_with fail
 go_loopw [8, 9] (fun l i wr => ∃ (k c : Nat) (ao : Option Addr), k ≤ n ∧ i = .int .i64 (k : Int) ∧ l = .slice ao k c ∧ Below w3.heap.size w3 wr ∧ Hid (One.OwnV 35 wr w3.heap.size ao k c ((List.replicate k 77).map u64V))) (fun _ i _ => n - (intOf i).toNat)
 case atStart => exact ⟨0, 0, none, by omega, rfl, rfl, Below.refl _ _, Lib.hid (One.OwnV.nil _ _ _)⟩
 case round =>
  obtain ⟨k, c, ao, hk, rfl, rfl, hbr, HOW⟩ := hrel
  have k7 : wr.cell? ⟨w.heap.size, 7, none⟩ = some (.slice sa n cap) := (HROW3.out.below hbr HROW3.out.blk).cell (j := 7) rfl
  have HBR := Lib.hid hbr
  have hz : w3.heap.size ≤ wr.heap.size := hbr.size
  clear hbr
  by_cases hlt : k < n
  ·have e1 : ((k : Int) < n) = True := by simp; omega
   go_wp2_with (at_builtin; refine One.app_one Tryz.underlying29 infoSl (by rfl) rfl _ _ rfl w3.heap.size rfl HOW.out (by rfl) rfl (by omega) (by omega) hz ?_; intro ao5 cap5 w5 hown5 hkeep5 hwh5 hb5)
   go_roundw
   case rel =>
    refine ⟨k + 1, cap5, ao5, by omega, by go_num, rfl, HBR.out.trans hb5, Lib.hid ?_⟩
    rw [List.replicate_succ', List.map_append]
    exact hown5
   case measure => simp [intOf]; omega
  ·obtain rfl : n = k := by omega
   have e1 : ((n : Int) < n) = False := by simp
   have hb3r : Below w2.heap.size w2 wr := HB3.out.trans (HBR.out.mono HB3.out.size)
   have hrun := run_uni a3 pa ao m.unpackI.length c3 pn pc n c m.unpackI pay (List.replicate n 77) wr (HOWN3.out.progAt.below HBR.out (Nat.le_refl _)) HWF.out (HTT.out.below hb3r (Nat.le_refl _)) HR.out HMAY.out (HPAY.out.below hb3r (Nat.le_refl _)) (ListAt.ofOwn HOW.out.own) HBY.out (words77 n)
   obtain ⟨r, hrr2⟩ : ∃ r, B.run m.unpackI (List.replicate n 77) 0 (B.start pay n) = r := ⟨_, rfl⟩
   rw [hrr2] at hrun ⊢
   go_upto_region 10 with (go_at_call 36; refine hrun.mono ?_; rintro e w4 ⟨a4, c4, a5, c5, a6, c6, rfl, o1, o2, o3, hb4⟩)
   have hrw4 : RC w4 w1.heap.size 44 6 #[.bool false, .int .i64 0, .slice none 0 0, .slice none 0 0, .slice none 0 0, .int .i64 0] := (HRESR.out.below hb3r HRESR.out.blk).below hb4 (Nat.lt_of_lt_of_le HRESR.out.blk hb3r.size)
   have hb45 : Below w4.heap.size w4 (w4.alloc (.cells #[.bool (fl r), .int .i64 (slotOf r), .slice a4 (payL r).length c4, .slice a5 (outL r).length c5, .slice a6 (hasL r).length c6, .int .i64 (r.steps : Int)] 44)) := (Below.refl _ _).alloc (Nat.le_refl _) _
   have hnew := RC.range (RC.new #[.bool (fl r), .int .i64 (slotOf r), .slice a4 (payL r).length c4, .slice a5 (outL r).length c5, .slice a6 (hasL r).length c6, .int .i64 (r.steps : Int)] 44 w4 (n := 6) rfl rfl)
   have hz34 : wr.heap.size ≤ w4.heap.size := hb4.size
   have hx2 : w1.heap.size < w2.heap.size := HRESR.out.blk
   have hxw : w.heap.size ≤ w1.heap.size := HXW.out
   have hz23 : w2.heap.size ≤ wr.heap.size := hb3r.size
   obtain ⟨w5, hw5⟩ : ∃ w5, w4.alloc (.cells #[.bool (fl r), .int .i64 (slotOf r), .slice a4 (payL r).length c4, .slice a5 (outL r).length c5, .slice a6 (hasL r).length c6, .int .i64 (r.steps : Int)] 44) = w5 := ⟨_, rfl⟩
   rw [hw5] at hb45 hnew ⊢
   have hrw5 := hrw4.below hb45 hrw4.blk
   have hb5 : Below w.heap.size w w5 := HB2.out.trans ((hb3r.mono HB2.out.size).trans ((hb4.mono (Nat.le_trans HB2.out.size hz23)).trans (hb45.mono (Nat.le_trans HB2.out.size (Nat.le_trans hz23 hz34)))))
   have hG : w5.drew.heap[w1.heap.size]? = some (.cells #[.bool false, .int .i64 0, .slice none 0 0, .slice none 0 0, .slice none 0 0, .int .i64 0] 44 (0, 0)) :=
    (hb45.block _ (by omega)).trans ((hb4.block _ (by omega)).trans ((hb3r.block _ hx2).trans HRESB.out))
   have HLOC : Hid (∀ w' : World, w'.heap[w4.heap.size]? = w5.heap[w4.heap.size]? → w'.rangeAt w4.heap.size 0 (#[.bool (fl r), .int .i64 (slotOf r), .slice a4 (payL r).length c4, .slice a5 (outL r).length c5, .slice a6 (hasL r).length c6, .int .i64 (r.steps : Int)] : Array Value).toList) := Lib.hid (fun w' h => RC.range (RC.of (by rw [← hw5]; exact RC.new _ 44 w4 (n := 6) rfl rfl) h))
   have hl45 : w4.heap.size < w5.heap.size := by rw [← hw5]; simp
   clear hw5 hnew
   refine wp_region_held_drew (S := fun w' => w'.heap[w4.heap.size]? = w5.heap[w4.heap.size]?) (by kernel_rfl) rfl (fun hS1 => ?_)
   refine takeM (i := 0) (d := 37) 44 _ w4.heap.size 0 #[.bool (fl r), .int .i64 (slotOf r), .slice a4 (payL r).length c4, .slice a5 (outL r).length c5, .slice a6 (hasL r).length c6, .int .i64 (r.steps : Int)] _ rfl rfl rfl rfl (by rfl) Tryz.underlying44 rfl (by kernel_rfl) (by kernel_rfl) (by kernel_rfl) (by kernel_rfl) (fun _ _ _ h => h) (fun w' h => HLOC.out w' h) hS1 ?_
   simp only [Act.put, List.setIfInBounds_toArray, List.set_cons_zero, List.set_cons_succ]
   refine takeS (i := 1) (d := 38) (v := .nilIface) rfl rfl rfl (by kernel_rfl) (by kernel_rfl) (by kernel_rfl) (fun _ _ _ h => h) (fun w' h => by go_simp) hS1 ?_
   simp only [Act.put, List.setIfInBounds_toArray, List.set_cons_zero, List.set_cons_succ]
   refine takeS (i := 2) (d := 39) (v := .bool true) rfl rfl rfl (by kernel_rfl) (by kernel_rfl) (by kernel_rfl) (fun _ _ _ h => h) (fun w' h => by go_simp) hS1 ?_
   simp only [Act.put, List.setIfInBounds_toArray, List.set_cons_zero, List.set_cons_succ]
   refine wpAnyH_ready (rs := [3]) (by kernel_rfl) (by simp) ?_
   refine AllReadyH.cons rfl (fun K hK => ?_) AllReadyH.nil
   refine step_store rfl (.tmp 4) (.tmp 37) rfl rfl rfl hG rfl (by simp [Value.oneCell']) ?_
   intro w6 hrow6 hg6
   have hz56 : w5.heap.size ≤ w6.heap.size := hg6.size
   have hz45 : w4.heap.size ≤ w5.heap.size := hb45.size
   refine hK.out _ _ (hg6.block _ hl45 (fun e => by have := Option.some.inj e; omega)) (fun hS2 => ?_)
   have hkeep : ∀ (g : Nat), wr.heap.size ≤ g → g < w4.heap.size → w6.heap[g]? = w4.heap[g]? := fun g hg hg2 =>
    (hg6.block g (Nat.lt_trans hg2 hl45) (fun e => by have := Option.some.inj e; omega)).trans (hb45.block g hg2)
   have HO1 := Lib.hid ((o1.keep (w' := w6) (fun g e => by rcases o1.form with ⟨e0, _⟩ | ⟨g', e1, h1, h2⟩; (rw [e0] at e; cases e); (rw [e1] at e; cases e; exact hkeep _ h1 h2))).weaken (base' := w.heap.size) (by omega))
   have HO2 := Lib.hid ((o2.keep (w' := w6) (fun g e => by rcases o2.form with ⟨e0, _⟩ | ⟨g', e1, h1, h2⟩; (rw [e0] at e; cases e); (rw [e1] at e; cases e; exact hkeep _ h1 h2))).weaken (base' := w.heap.size) (by omega))
   have HO3 := Lib.hid ((o3.keep (w' := w6) (fun g e => by rcases o3.form with ⟨e0, _⟩ | ⟨g', e1, h1, h2⟩; (rw [e0] at e; cases e); (rw [e1] at e; cases e; exact hkeep _ h1 h2))).weaken (base' := w.heap.size) (by omega))
   have HB6 : Hid (Below w.heap.size w w6) := Lib.hid (hb5.drew.grown hg6 hb5.drew.size (fun k hk => by cases hk; exact hxw))
   have HR6 : Hid (RC w6 w1.heap.size 44 6 #[.bool (fl r), .int .i64 (slotOf r), .slice a4 (payL r).length c4, .slice a5 (outL r).length c5, .slice a6 (hasL r).length c6, .int .i64 (r.steps : Int)]) := Lib.hid (RC.of (RC.new #[.bool (fl r), .int .i64 (slotOf r), .slice a4 (payL r).length c4, .slice a5 (outL r).length c5, .slice a6 (hasL r).length c6, .int .i64 (r.steps : Int)] 44 w1 (n := 6) rfl rfl) (by rw [hrow6]; exact (heap_alloc_new w1 _).symm))
   clear hK K
   simp only [Act.put]
   refine takeS (i := 4) (d := 5) (v := .bool true) rfl rfl rfl (by kernel_rfl) (by kernel_rfl) (by kernel_rfl) (fun _ _ _ h => h) (fun w' h => by go_simp) hS2 ?_
   simp only [Act.put, List.setIfInBounds_toArray, List.set_cons_zero, List.set_cons_succ]
   refine wpAnyH_done (by kernel_rfl) ?_ _
   clear hkeep hg6 hrow6 hz56 hz45 hG hb5 hrw5 hb45 hrw4 hb3r hb4 hS1 hS2
   go_wp2_with fail
   exact bodyPost_ret (v := .tuple #[.agg #[.bool (fl r), .int .i64 (slotOf r), .slice a4 (payL r).length c4, .slice a5 (outL r).length c5, .slice a6 (hasL r).length c6, .int .i64 (r.steps : Int)], .bool true]) (retRan (p := 4) (u := 5) (by kernel_rfl) rfl (by rfl) (by rfl) HR6.out) rfl ⟨a4, c4, a5, c5, a6, c6, rfl, HO1.out, HO2.out, HO3.out, HB6.out⟩

end Code
end Go.Proofs.YtdpjbnjlognmeaaGreatDoor
