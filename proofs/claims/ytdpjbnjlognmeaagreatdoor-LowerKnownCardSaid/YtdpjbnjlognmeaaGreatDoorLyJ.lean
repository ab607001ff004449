/- Package ref0: copies of texts, of a signal, of signals, of a message. -/
import Derived.Test.YtdpjbnjlognmeaaGreatDoorLyD
import Derived.Test.YtdpjbnjlognmeaaGreatDoorLxQ
namespace Go.Proofs.YtdpjbnjlognmeaaGreatDoor
open Go.RowKit

namespace Code

attribute [local go_sem ↓] Go.wp_at_zero Go.wp_at_succ

theorem infoTx : (Tryz.prog.info? 9).map (fun i => (i.zero, i.size, i.bytes)) = some (some (.string ⟨#[]⟩), 1, 16) := by kernel_rfl

/-- texts of the call's own -/
def TextsOut (l : List ByteArray) (w : World) (e : Ending) (w' : World) : Prop := ∃ ao cap, e = .returned (.slice ao l.length cap) ∧ One.OwnV 9 w' w.heap.size ao l.length cap (l.map Value.string) ∧ Below w.heap.size w w'

set_option maxRecDepth 100000 in
set_option maxHeartbeats 6400000 in
theorem copyTexts_any (a : Option Addr) (n cap : Nat) (l : List ByteArray) (w : World) (hl : ListAt w a n (l.map Value.string)) (hn : l.length ≤ 64) :
    Calls Tryz.prog 71 #[.slice a n cap] w (TextsOut l w) := by
 have hlen : n = l.length := by have := hl.len; simpa using this
 have HL := Lib.hid hl
 have HN := Lib.hid hlen
 have hn64 : n ≤ 64 := by omega
 clear hl hlen hn
 go_enter Tryz.func71, Tryz.ntmps71
 go_wp2_with fail
 go_loopw [3, 4] (fun v i wr => ∃ (k c : Nat) (ao : Option Addr), k ≤ n ∧ i = .int .i64 (k : Int) ∧ v = .slice ao k c ∧ Below w.heap.size w wr ∧ Hid (One.OwnV 9 wr w.heap.size ao k c ((l.take k).map Value.string))) (fun _ i _ => n - (intOf i).toNat)
 case atStart => exact ⟨0, 0, none, by omega, rfl, rfl, Below.refl _ _, Lib.hid (One.OwnV.nil _ _ _)⟩
 case round =>
  obtain ⟨k, c, ao, hk, rfl, rfl, hbr, HOW⟩ := hrel
  have HBR := Lib.hid hbr
  have hz : w.heap.size ≤ wr.heap.size := hbr.size
  clear hbr
  by_cases hlt : k < n
  ·have hx : l[k]? = some (l[k]'(by have := HN.out; omega)) := List.getElem?_eq_getElem _
   generalize l[k]'(by have := HN.out; omega) = t at hx
   obtain ⟨b1, o1, rfl, hl1, c1⟩ := HL.out.at_ k (.string t) (by rw [List.getElem?_map, hx]; rfl)
   replace c1 := (HBR.out.cell (p := ⟨b1, o1 + k, none⟩) hl1).trans c1
   have q0 : (0 : Int) ≤ (k : Int) := by omega
   have q1 : (k : Int) < n := by omega
   have HX := Lib.hid hx
   clear hx hl1
   go_wp2_with (at_builtin; refine One.app_one Tryz.underlying38 infoTx (by rfl) rfl _ _ rfl w.heap.size rfl HOW.out (by rfl) rfl (by omega) (by omega) hz ?_; intro ao5 cap5 w5 hown5 hkeep5 hwh5 hb5)
   go_roundw
   case rel =>
    refine ⟨k + 1, cap5, ao5, by omega, by go_num, rfl, HBR.out.trans hb5, Lib.hid ?_⟩
    rw [List.take_add_one, HX.out, List.map_append]
    exact hown5
   case measure => simp [intOf]; omega
  ·obtain rfl : n = k := by omega
   go_wp2_with fail
   go_ret
   have ht : l.take n = l := List.take_of_length_le (by rw [HN.out]; exact Nat.le_refl _)
   rw [ht] at HOW
   exact ⟨ao, c, by rw [← HN.out]; rfl, by rw [← HN.out]; exact HOW.out, HBR.out⟩

theorem One.OwnV.toAt {w : World} {base : Nat} {ao : Option Addr} {cap : Nat} {l : List ByteArray} (h : One.OwnV 9 w base ao l.length cap (l.map Value.string)) (hl : l.length ≤ 64) : ToAt w (.slice ao l.length cap) l := by
 refine ⟨ao, _, cap, rfl, ListAt.ofOwn h.own, by omega, fun b o e => ?_⟩
 rcases h.own.2 with ⟨e0, _⟩ | ⟨g, c, cur, e1, hb, hh, _⟩
 ·injection e0 with e0
  rw [e0] at e; cases e
 ·injection e1 with e1 _ _
  rw [e1] at e
  injection e with e
  injection e with e _ _
  subst e
  exact ⟨cur, hh⟩

/-- a signal, its takers of the call's own -/
def SgOut (s : B.Sig) (w : World) (e : Ending) (w' : World) : Prop := ∃ ta tc, e = .returned (.agg (sigC s (.slice ta s.dest.length tc))) ∧ ToAt w' (.slice ta s.dest.length tc) s.dest ∧ Below w.heap.size w w'

theorem sigC_to (s : B.Sig) (tv tv' : Value) : ∀ j, j < 19 → (sigC s tv').getD j undef = if j = 18 then tv' else (sigC s tv).getD j undef := by
 intro j hj
 match j, hj with
 | 0, _ => rfl
 | 1, _ => rfl
 | 2, _ => rfl
 | 3, _ => rfl
 | 4, _ => rfl
 | 5, _ => rfl
 | 6, _ => rfl
 | 7, _ => rfl
 | 8, _ => rfl
 | 9, _ => rfl
 | 10, _ => rfl
 | 11, _ => rfl
 | 12, _ => rfl
 | 13, _ => rfl
 | 14, _ => rfl
 | 15, _ => rfl
 | 16, _ => rfl
 | 17, _ => rfl
 | 18, _ => rfl
 | n + 19, h => omega

theorem RC.putL {w : World} {b n : Nat} {T : TypeId} {C D : Array Value} (h : RC w b T n C) (k : Nat) (v : Value) (hD : D.size = n) (hd : ∀ j, j < n → D.getD j undef = if j = k then v else C.getD j undef) : RC (w.setCell ⟨b, k, none⟩ v) b T n D :=
 ⟨CellsAt.congr (CellsAt.set h.1 k v) (fun j hj => (hd j hj).symm), hD⟩

set_option maxRecDepth 100000 in
set_option maxHeartbeats 6400000 in
theorem copySignal_any (s : B.Sig) (a : Option Addr) (n cap : Nat) (w : World) (hl : ListAt w a n (s.dest.map Value.string)) (hn : s.dest.length ≤ 64) :
    Calls Tryz.prog 50 #[.agg (sigC s (.slice a n cap))] w (SgOut s w) := by
 have hrow := RC.new (sigC s (.slice a n cap)) 40 w (n := 19) rfl rfl
 have hbel : Below w.heap.size w (w.alloc (.cells (sigC s (.slice a n cap)) 40)) := (Below.refl _ _).alloc (Nat.le_refl _) _
 obtain ⟨w1, hw1⟩ : ∃ w1, w.alloc (.cells (sigC s (.slice a n cap)) 40) = w1 := ⟨_, rfl⟩
 rw [hw1] at hrow hbel
 have HL := Lib.hid (hl.below hbel (Nat.le_refl _))
 have HN := Lib.hid hn
 have HROW := Lib.hid hrow
 have HB := Lib.hid hbel
 have HZ : Hid (w.heap.size < w1.heap.size) := Lib.hid hrow.blk
 clear hl hn hrow hbel
 go_enter Tryz.func50, Tryz.ntmps50
 go_upto_region 1 with fail
 try rw [hw1]
 clear hw1
 generalize hw2 : World.alloc _ _ = w2
 have hb2 : Below w1.heap.size w1 w2 := by rw [← hw2]; exact (Below.refl _ _).alloc (Nat.le_refl _) _
 have ht2 : w2.there w1.heap.size 0 19 := by rw [← hw2]; exact there_alloc _ _ _ (by rfl)
 have hm2 : ∃ C, w2.heap[w1.heap.size]? = some (.cells C 40 (0, 0)) := ⟨_, by rw [← hw2]; exact heap_alloc_new _ _⟩
 have hz2 : w1.heap.size < w2.heap.size := by rw [← hw2]; simp
 obtain ⟨R, hR⟩ : ∃ R, w1.heap.size = R := ⟨_, rfl⟩
 rw [hR] at ht2 hm2 hz2 ⊢
 have hrr2 := RC.range (HROW.out.below hb2 HROW.out.blk)
 have HB2 := Lib.hid hb2
 have HRE := Lib.hid hR
 have HT2 := Lib.hid ht2
 have HM2 := Lib.hid hm2
 clear hw2 hb2 ht2 hm2 hR
 go_upto_region 2 with (first
  | refine wpList_load_mid (by rfl) 40 _ (by rfl) w.heap.size 0 (by rfl) (sigC s (.slice a n cap)).toList _ hrr2 Tryz.underlying40 (by rfl) (by rw [infoN40]; rfl) ?_
  | (refine wpList_store_mid (by rfl) 40 _ _ (by rfl) w2.heap.size 0 (sigC s (.slice a n cap)) (by rfl) (by rfl) (there_alloc _ _ _ (by rfl)) (by rw [infoN40]; rfl) (ones_sig _ _ _ _) ?_; generalize hw3 : World.setCells _ _ _ _ = w3))
 have hb3 : Below w2.heap.size w2 w3 := by
  rw [← hw3]
  exact ((Below.refl _ _).alloc (Nat.le_refl _) _).grown (grownBy_setCells _ _ _ _) (by simp) (fun k hk => by cases hk; exact Nat.le_refl _)
 have hrow3 : RC w3 w2.heap.size 40 19 (sigC s (.slice a n cap)) := by rw [← hw3]; exact RC.over _ _ _ _ (by rfl) rfl
 obtain ⟨Y, hY⟩ : ∃ Y, w2.heap.size = Y := ⟨_, rfl⟩
 have hb13 : Below w1.heap.size w1 w3 := HB2.out.trans (hb3.mono HB2.out.size)
 have hRY : R < Y := by rw [← hY]; exact hz2
 have k18 : w3.cell? ⟨w.heap.size, 18, none⟩ = some (.slice a n cap) := (HROW.out.below hb13 HROW.out.blk).cell (j := 18) rfl
 have hcp := copyTexts_any a n cap s.dest w3 (HL.out.below hb13 (Nat.le_refl _)) HN.out
 have HT3 : Hid (w3.there R 0 19) := Lib.hid (fun j hj => by
  have h := HT2.out j hj
  have hblk := hb3.block R hz2
  exact ⟨by rw [World.cell?_of_block (a := ⟨R, 0 + j, none⟩) hblk]; exact h.1, by rw [World.frozen?_of_block (a := ⟨R, 0 + j, none⟩) hblk]; exact h.2⟩)
 have HM3 : Hid (∃ C, w3.heap[R]? = some (.cells C 40 (0, 0))) := Lib.hid (by obtain ⟨C, hC⟩ := HM2.out; exact ⟨C, (hb3.block R hz2).trans hC⟩)
 have HB13 := Lib.hid hb13
 have HR3 := Lib.hid (show R < w3.heap.size from Nat.lt_of_lt_of_le hz2 hb3.size)
 rw [hY] at hrow3 ⊢
 have HROW3 := Lib.hid hrow3
 clear hw3 hb3 hrow3 hY hb13 hrr2 HB2 HT2 HM2
 go_upto_region 3 with (go_at_call 71; refine hcp.mono ?_; rintro e w4 ⟨ta, tc, rfl, hto4, hb4⟩; have j18 := (HROW3.out.below hb4 HROW3.out.blk).cell (j := 18) rfl; have f18 := CellsAt.free (HROW3.out.below hb4 HROW3.out.blk).1 18)
 have hrow5 : RC (w4.setCell ⟨Y, 18, none⟩ (.slice ta s.dest.length tc)) Y 40 19 (sigC s (.slice ta s.dest.length tc)) := (HROW3.out.below hb4 HROW3.out.blk).putL 18 _ rfl (sigC_to s _ _)
 obtain ⟨w5, hw5⟩ : ∃ w5, w4.setCell ⟨Y, 18, none⟩ (.slice ta s.dest.length tc) = w5 := ⟨_, rfl⟩
 have hb45 : w4.grownBy w5 (some Y) := by rw [← hw5]; exact grownBy_setCells Y [.slice ta s.dest.length tc] 18 w4
 rw [hw5] at hrow5
 try rw [hw5]
 have hR3 := HR3.out
 have hR4 : R < w4.heap.size := Nat.lt_of_lt_of_le hR3 hb4.size
 have hYb : ∃ C, w4.heap[Y]? = some (.cells C 40 (0, 0)) := by
  obtain ⟨C, hC, _⟩ := (HROW3.out.below hb4 HROW3.out.blk).1
  exact ⟨C, hC⟩
 have hto5 : ToAt w5 (.slice ta s.dest.length tc) s.dest := (One.OwnV.toAt hto4 HN.out).keep (fun b C hC => hb45.block b (lt_of_block hC) (fun e => by
  obtain rfl := Option.some.inj e
  obtain ⟨C', hC'⟩ := hYb
  rw [hC'] at hC
  injection hC with hC
  injection hC with _ hT _
  exact absurd hT (by decide)))
 have hRb5 : w5.heap[R]? = w3.heap[R]? := (hb45.block R hR4 (fun e => by have := Option.some.inj e; omega)).trans (hb4.block R hR3)
 have HT5 : Hid (w5.there R 0 19) := Lib.hid (fun j hj => by
  have h := HT3.out j hj
  exact ⟨by rw [World.cell?_of_block (a := ⟨R, 0 + j, none⟩) hRb5]; exact h.1, by rw [World.frozen?_of_block (a := ⟨R, 0 + j, none⟩) hRb5]; exact h.2⟩)
 have HM5 : Hid (∃ C, w5.heap[R]? = some (.cells C 40 (0, 0))) := Lib.hid (by obtain ⟨C, hC⟩ := HM3.out; exact ⟨C, hRb5.trans hC⟩)
 have hYw : w.heap.size ≤ Y := by have := HZ.out; have := HRE.out; omega
 have HB5 : Hid (Below w.heap.size w w5) := Lib.hid ((HB.out.trans ((HB13.out.mono HB.out.size).trans (hb4.mono (Nat.le_trans HB.out.size HB13.out.size)))).grown hb45 (Nat.le_trans HB.out.size (Nat.le_trans HB13.out.size hb4.size)) (fun k hk => by cases hk; exact hYw))
 have HTO5 := Lib.hid hto5
 have hrr5 := RC.range hrow5
 have HRW : Hid (w.heap.size ≤ R) := Lib.hid (by have := HZ.out; have := HRE.out; omega)
 clear hw5 hb45 hrow5 hR3 hR4 hYb hto5 hRb5 hYw hto4 hb4 hcp j18 f18 k18
 go_wp2_with (first
  | refine wpList_load_mid (by rfl) 40 _ (by rfl) Y 0 (by rfl) (sigC s (.slice ta s.dest.length tc)).toList _ hrr5 Tryz.underlying40 (by rfl) (by rw [infoN40]; rfl) ?_
  | (refine wpList_store_mid (by rfl) 40 _ _ (by rfl) R 0 (sigC s (.slice ta s.dest.length tc)) (by rfl) (by rfl) HT5.out (by rw [infoN40]; rfl) (ones_sig _ _ _ _) ?_; generalize hw6 : World.setCells _ _ _ _ = w6))
 have hgr := grownBy_setCells R (sigC s (.slice ta s.dest.length tc)).toList 0 w5
 have hrg := World.rangeAt_setCells_same w5 R 0 (sigC s (.slice ta s.dest.length tc)).toList HT5.out
 rw [hw6] at hgr hrg
 have hto6 : ToAt w6 (.slice ta s.dest.length tc) s.dest := HTO5.out.keep (fun b C hC => hgr.block b (lt_of_block hC) (fun e => by
  obtain rfl := Option.some.inj e
  obtain ⟨C', hC'⟩ := HM5.out
  rw [hC'] at hC
  injection hC with hC
  injection hC with _ hT _
  exact absurd hT (by decide)))
 have hbel : Below w.heap.size w w6 := HB5.out.grown hgr HB5.out.size (fun k hk => by cases hk; exact HRW.out)
 refine bodyPost_ret (v := .agg (sigC s (.slice ta s.dest.length tc))) ?_ rfl ⟨ta, tc, rfl, hto6, hbel⟩
 have hload := run_loadVar_mid (P := Tryz.prog) w6 R 0 40 (sigC s (.slice ta s.dest.length tc)).toList _ hrg Tryz.underlying40 rfl (by rw [infoN40]; rfl)
 exact results_cell Tryz.results50 (by rfl) hload

theorem infoSg : (Tryz.prog.info? 40).map (fun i => (i.zero, i.size, i.bytes)) = some (some (.agg #[.int .i64 0, .int .i64 0, .string ⟨#[]⟩, .int .i64 0, .int .u64 0, .int .i64 0, .int .i64 0, .bool false, .bool false, .int .i64 0, .int .i64 0, .int .i64 0, .int .i64 0, .int .i64 0, .int .i64 0, .int .i64 0, .int .i64 0, .string ⟨#[]⟩, .slice none 0 0]), 19, 176) := by kernel_rfl

theorem sigC_one (s : B.Sig) (a : Option Addr) (n cap : Nat) : ∀ u ∈ (sigC s (.slice a n cap)).toList, u.oneCell' = true := by
 have := ones_sig s a n cap
 intro u hu
 exact Array.all_eq_true'.1 this u (by simpa using hu)

/-- signals of the call's own -/
def SgsOut (l : List B.Sig) (w : World) (e : Ending) (w' : World) : Prop := ∃ ao cap L, e = .returned (.slice ao l.length cap) ∧ OwnSg w' w.heap.size ao l.length cap L ∧ L.map (·.1) = l ∧ Below w.heap.size w w'

set_option maxRecDepth 100000 in
set_option maxHeartbeats 12800000 in
theorem copySignals_any (sa : Option Addr) (n cap : Nat) (l : List B.Sig) (w : World) (hs : SigsAt w sa n l) (hn : n ≤ 64) (hto : ∀ s ∈ l, s.dest.length ≤ 64) :
    Calls Tryz.prog 34 #[.slice sa n cap] w (SgsOut l w) := by
 have HS := Lib.hid hs
 have HN := Lib.hid hs.len
 have HTO := Lib.hid hto
 clear hs hto
 go_enter Tryz.func34, Tryz.ntmps34
 go_wp2_with fail
 go_loopw [3, 4] (fun v i wr => ∃ (k c : Nat) (ao : Option Addr), k ≤ n ∧ i = .int .i64 (k : Int) ∧ v = .slice ao k c ∧ Below w.heap.size w wr ∧ Hid (∃ L, OwnSg wr w.heap.size ao k c L ∧ L.map (·.1) = l.take k)) (fun _ i _ => n - (intOf i).toNat)
 case atStart => exact ⟨0, 0, none, by omega, rfl, rfl, Below.refl _ _, Lib.hid ⟨[], OwnSg.nil _ _, by simp⟩⟩
 case round =>
  obtain ⟨k, c, ao, hk, rfl, rfl, hbr, HOW⟩ := hrel
  have HBR := Lib.hid hbr
  have hz : w.heap.size ≤ wr.heap.size := hbr.size
  clear hbr
  by_cases hlt : k < n
  ·have hx : l[k]? = some (l[k]'(by have := HN.out; omega)) := List.getElem?_eq_getElem _
   generalize l[k]'(by have := HN.out; omega) = s at hx
   obtain ⟨b1, o1, rfl, hl1, a1, n1, c1, hrow, hto, hn1⟩ := HS.out.at_ k s hx
   have hrr := cells_below hrow HBR.out hl1
   have hcp := copySignal_any s a1 n1 c1 wr (hto.below HBR.out (Nat.le_refl _)) (HTO.out s (List.mem_of_getElem? hx))
   have q0 : (0 : Int) ≤ (k : Int) := by omega
   have q1 : (k : Int) < n := by omega
   have HX := Lib.hid hx
   clear hx hl1 hrow hto hn1
   go_upto_region 6 with (first
    | refine wpList_load_mid (by rfl) 40 _ (by rfl) b1 (o1 + k * 19) (by rfl) (sigC s (.slice a1 n1 c1)).toList _ hrr Tryz.underlying40 (by rfl) (by rw [infoN40]; rfl) ?_
    | (go_at_call 50; refine hcp.mono ?_; rintro e w2 ⟨ta, tc, rfl, hto2, hb2⟩)
    | (refine wpList_store_mid (by rfl) 40 _ _ (by rfl) w2.heap.size 0 (sigC s (.slice ta s.dest.length tc)) (by rfl) (by rfl) (there_alloc _ _ _ (by rfl)) (by rw [infoN40]; rfl) (ones_sig _ _ _ _) ?_; generalize hw3 : World.setCells _ _ _ _ = w3))
   have hb3 : Below w2.heap.size w2 w3 := by
    rw [← hw3]
    exact ((Below.refl _ _).alloc (Nat.le_refl _) _).grown (grownBy_setCells _ _ _ _) (by simp) (fun k hk => by cases hk; exact Nat.le_refl _)
   have hrow3 : RC w3 w2.heap.size 40 19 (sigC s (.slice ta s.dest.length tc)) := by rw [← hw3]; exact RC.over _ _ _ _ (by rfl) rfl
   obtain ⟨Y, hY⟩ : ∃ Y, w2.heap.size = Y := ⟨_, rfl⟩
   have hbr3 : Below wr.heap.size wr w3 := hb2.trans (hb3.mono hb2.size)
   have hto3 := hto2.below hb3 (Nat.le_refl _)
   rw [hY] at hrow3 ⊢
   have hrr3 := RC.range hrow3
   obtain ⟨L, hL, hLm⟩ := HOW.out
   have hL3 := hL.kept hbr3
   obtain ⟨xs, hxs, hxat⟩ := hL3.own
   have hxl : xs.length = k * 19 := hxs.1
   have HTO3 := Lib.hid hto3
   have HBR3 := Lib.hid hbr3
   have HL3 := Lib.hid hL3
   have HLM := Lib.hid hLm
   have HXS := Lib.hid hxs
   have HXA := Lib.hid hxat
   have HXL := Lib.hid hxl
   have hz3 : w.heap.size ≤ w3.heap.size := Nat.le_trans hz hbr3.size
   clear hw3 hb3 hrow3 hY hbr3 hto3 hL hLm hL3 hxs hxat hxl hto2 hb2 hcp hrr
   go_wp2_with (first
    | refine wpList_load_mid (by rfl) 40 _ (by rfl) Y 0 (by rfl) (#[.int .i64 s.line, .int .i64 s.col, .string s.name, .int .i64 s.role, .int .u64 s.branch, .int .i64 s.start, .int .i64 s.size, .bool s.moto, .bool s.signed, .int .i64 s.scale.num, .int .i64 s.scale.den, .int .i64 s.offset.num, .int .i64 s.offset.den, .int .i64 s.min.num, .int .i64 s.min.den, .int .i64 s.max.num, .int .i64 s.max.den, .string s.unit, .slice ta s.dest.length tc] : Array Value).toList _ hrr3 Tryz.underlying40 (by rfl) (by rw [infoN40]; rfl) ?_
    | (at_builtin; refine app_gen Tryz.underlying25 infoSg (by rfl) (by decide) rfl _ _ rfl w.heap.size rfl HXS.out rfl rfl (sigC_one _ _ _ _) (by omega) (by omega) hz3 ?_; intro ao6 c6 w6 hown6 hg6 hb6 hs6))
   go_roundw
   case rel =>
    refine ⟨k + 1, c6, ao6, by omega, by go_num, rfl, (HBR.out.trans (HBR3.out.mono hz)).trans hb6, Lib.hid ⟨L ++ [(s, .slice ta s.dest.length tc)], ?_, ?_⟩⟩
    ·exact HL3.out.snoc ((Below.refl _ _).alloc (Nat.le_refl _) _) s _ (HTO3.out.below ((Below.refl _ _).alloc (Nat.le_refl _) _) (Nat.le_refl _)) HXA.out HXL.out hown6 hg6
    ·rw [List.map_append, HLM.out, List.take_add_one, HX.out]
     rfl
   case measure => simp [intOf]; omega
  ·obtain rfl : n = k := by omega
   go_wp2_with fail
   go_ret
   obtain ⟨L, hL, hLm⟩ := HOW.out
   have ht : l.take n = l := List.take_of_length_le (by rw [HN.out]; exact Nat.le_refl _)
   rw [ht] at hLm
   exact ⟨ao, c, L, by rw [← HN.out]; rfl, by rw [← HN.out]; exact hL, hLm, HBR.out⟩

end Code
end Go.Proofs.YtdpjbnjlognmeaaGreatDoor
