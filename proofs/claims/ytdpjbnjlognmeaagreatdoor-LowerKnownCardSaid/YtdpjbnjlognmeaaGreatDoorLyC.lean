/- Package law15: which signals are active. -/
import Derived.Test.YtdpjbnjlognmeaaGreatDoorLyA
namespace Go.Proofs.YtdpjbnjlognmeaaGreatDoor
open Go.RowKit

namespace B

theorem mem_actI (v : Int) (l : List Sig) : ∀ i j, j ∈ actI v i l ↔ ∃ s, i ≤ j ∧ l[j - i]? = some s ∧ (s.role ≠ 2 ∨ s.branch = v) := by
 induction l with
 | nil => intro i j; simp [actI]
 | cons t l ih =>
  intro i j
  show j ∈ (if t.role ≠ 2 ∨ t.branch = v then [i] else []) ++ actI v (i + 1) l ↔ _
  rw [List.mem_append, ih]
  constructor
  ·rintro (h | ⟨s, h1, h2, h3⟩)
   ·split at h
    ·rename_i hp
     obtain rfl : j = i := by simpa using h
     exact ⟨t, Nat.le_refl _, by simp, hp⟩
    ·cases h
   ·refine ⟨s, by omega, ?_, h3⟩
    rw [show j - i = (j - (i + 1)) + 1 by omega, List.getElem?_cons_succ]
    exact h2
  ·rintro ⟨s, h1, h2, h3⟩
   by_cases hj : j = i
   ·subst hj
    rw [Nat.sub_self, List.getElem?_cons_zero] at h2
    cases h2
    exact .inl (by rw [if_pos h3]; exact List.mem_singleton_self _)
   ·refine .inr ⟨s, by omega, ?_, h3⟩
    rw [show j - i = (j - (i + 1)) + 1 by omega, List.getElem?_cons_succ] at h2
    exact h2

/-- the marks of the first numbers of a list -/
def marks (l : List Nat) (n k : Nat) : List Bool := (List.range n).map fun j => decide (j ∈ l.take k)

theorem marks_zero (l : List Nat) (n : Nat) : marks l n 0 = List.replicate n false := by
 unfold marks
 apply List.ext_getElem?
 intro j
 rw [List.getElem?_map, List.getElem?_replicate]
 by_cases h : j < n
 ·rw [List.getElem?_range h, if_pos h]; simp
 ·rw [List.getElem?_eq_none (by simpa using h), if_neg h]; rfl

theorem marks_next (l : List Nat) (n k x : Nat) (h : l[k]? = some x) : marks l n (k + 1) = (marks l n k).set x true := by
 unfold marks
 apply List.ext_getElem?
 intro j
 rw [List.getElem?_map, List.getElem?_set, List.getElem?_map]
 by_cases hj : j < n
 ·rw [List.getElem?_range hj]
  by_cases hx : x = j
  ·rw [if_pos hx]
   simp only [List.length_map, List.length_range]
   rw [if_pos (by omega), List.take_add_one, h, hx]
   simp
  ·rw [if_neg hx, List.take_add_one, h]
   simp [show ¬ j = x by omega]
 ·rw [List.getElem?_eq_none (by simpa using hj)]
  by_cases hx : x = j
  ·rw [if_pos hx]
   simp only [List.length_map, List.length_range]
   rw [if_neg (by omega)]
   rfl
  ·rw [if_neg hx]
   rfl

theorem marks_all (m : Msg) (at' : Nat) : marks (actI (at' : Int) 0 m.sigs) m.sigs.length (actI (at' : Int) 0 m.sigs).length = m.actives at' := by
 unfold marks Msg.actives
 rw [List.take_length]
 apply List.ext_getElem?
 intro j
 rw [List.getElem?_map, List.getElem?_map]
 by_cases hj : j < m.sigs.length
 ·rw [List.getElem?_range hj, List.getElem?_eq_getElem hj]
  simp only [Option.map_some, Option.some.injEq]
  rw [Bool.eq_iff_iff, decide_eq_true_iff, mem_actI]
  unfold Sig.active
  simp only [Nat.sub_zero, List.getElem?_eq_getElem hj, Option.some.injEq, Bool.or_eq_true, Bool.not_eq_true', decide_eq_false_iff_not, decide_eq_true_eq]
  constructor
  ·rintro ⟨s, _, rfl, h⟩; exact h
  ·intro h; exact ⟨_, Nat.zero_le _, rfl, h⟩
 ·rw [List.getElem?_eq_none (by simpa using hj), List.getElem?_eq_none (by omega)]
  rfl

theorem actI_lt (v : Int) (l : List Sig) (k x : Nat) (h : (actI v 0 l)[k]? = some x) : x < l.length := by
 obtain ⟨s, _, h2, _⟩ := (mem_actI v l 0 x).1 (List.mem_of_getElem? h)
 exact (List.getElem?_eq_some_iff.1 h2).1

end B

namespace Code

attribute [local go_sem ↓] Go.wp_at_zero Go.wp_at_succ

theorem infoBl : (Tryz.prog.info? 4).map (fun i => (i.zero, i.size, i.bytes)) = some (some (.bool false), 1, 1) := by kernel_rfl

/-- a list of truths of the call's own -/
def BoolsOut (l : List Bool) (w : World) (e : Ending) (w' : World) : Prop := ∃ ao cap, e = .returned (.slice ao l.length cap) ∧ One.OwnV 4 w' w.heap.size ao l.length cap (l.map Value.bool) ∧ Below w.heap.size w w'

set_option maxRecDepth 100000 in
set_option maxHeartbeats 6400000 in
theorem actives_any (m : B.Msg) (v : Nat) (sa : Option Addr) (n cap : Nat) (w : World) (hs : SigsAt w sa n m.sigs) (hn64 : n ≤ 64) :
    Calls Tryz.prog 16 #[.agg (msgC m (.slice sa n cap)), .int .u64 (v : Int)] w (BoolsOut (m.actives v) w) := by
 have hrow := RC.new (msgC m (.slice sa n cap)) 27 w (n := 8) rfl rfl
 have hbel : Below w.heap.size w (w.alloc (.cells (msgC m (.slice sa n cap)) 27)) := (Below.refl _ _).alloc (Nat.le_refl _) _
 obtain ⟨w1, hw1⟩ : ∃ w1, w.alloc (.cells (msgC m (.slice sa n cap)) 27) = w1 := ⟨_, rfl⟩
 rw [hw1] at hrow hbel
 have hrr := RC.range hrow
 have hact := active_any m (v : Int) sa n cap w1 (hs.below hbel (Nat.le_refl _)) (by omega)
 have HMA := Lib.hid (B.marks_all m v)
 have HLT := Lib.hid (B.actI_lt (v : Int) m.sigs)
 have HLL := Lib.hid (B.actI_len (v : Int) m.sigs 0)
 have HLN := Lib.hid hs.len
 have HROW := Lib.hid hrow
 have HB := Lib.hid hbel
 obtain ⟨L, hL⟩ : ∃ L, B.actI (v : Int) 0 m.sigs = L := ⟨_, rfl⟩
 rw [hL] at hact HMA HLT HLL
 have hll : L.length ≤ 64 := Nat.le_trans HLL.out (by rw [← HLN.out]; exact hn64)
 clear hrow hbel hs hL
 go_enter Tryz.func16, Tryz.ntmps16
 go_upto_region 1 with fail
 try rw [hw1]
 clear hw1
 go_upto_region 2 with (first
  | refine wpList_load_mid (by rfl) 27 _ (by rfl) w.heap.size 0 (by rfl) (msgC m (.slice sa n cap)).toList _ hrr Tryz.underlying27 (by rfl) (by kernel_rfl) ?_
  | (go_at_call 38; refine hact.mono ?_; rintro e w4 ⟨la, lc, rfl, hown4, hb4⟩))
 have HO4 := Lib.hid hown4
 have HROW4 := Lib.hid (HROW.out.below hb4 HROW.out.blk)
 have HB4 := Lib.hid (HB.out.trans (hb4.mono HB.out.size))
 clear hown4 hb4 hrr hact HROW HB
 go_wp2_with fail
 go_loopw [6, 7] (fun l i wr => ∃ (k c : Nat) (ao : Option Addr), k ≤ n ∧ i = .int .i64 (k : Int) ∧ l = .slice ao k c ∧ Below w4.heap.size w4 wr ∧ Hid (One.OwnV 4 wr w4.heap.size ao k c ((List.replicate k false).map Value.bool))) (fun _ i _ => n - (intOf i).toNat)
 case atStart => exact ⟨0, 0, none, by omega, rfl, rfl, Below.refl _ _, Lib.hid (One.OwnV.nil _ _ _)⟩
 case round =>
  obtain ⟨k, c, ao, hk, rfl, rfl, hbr, HOW⟩ := hrel
  have k7 : wr.cell? ⟨w.heap.size, 7, none⟩ = some (.slice sa n cap) := (HROW4.out.below hbr HROW4.out.blk).cell (j := 7) rfl
  have HBR := Lib.hid hbr
  have hz : w4.heap.size ≤ wr.heap.size := hbr.size
  clear hbr
  by_cases hlt : k < n
  ·have e1 : ((k : Int) < n) = True := by simp; omega
   go_wp2_with (at_builtin; refine One.app_one Tryz.underlying42 infoBl (by rfl) rfl _ _ rfl w4.heap.size rfl HOW.out (by rfl) rfl (by omega) (by omega) hz ?_; intro ao5 cap5 w5 hown5 hkeep5 hwh5 hb5)
   go_roundw
   case rel =>
    refine ⟨k + 1, cap5, ao5, by omega, by go_num, rfl, HBR.out.trans hb5, Lib.hid ?_⟩
    rw [List.replicate_succ', List.map_append]
    exact hown5
   case measure => simp [intOf]; omega
  ·obtain rfl : n = k := by omega
   have e1 : ((n : Int) < n) = False := by simp
   have HOW0 : Hid (One.OwnV 4 wr w4.heap.size ao n c ((B.marks L n 0).map Value.bool)) := Lib.hid (by rw [B.marks_zero]; exact HOW.out)
   clear HOW hz
   obtain ⟨wo, rfl⟩ : ∃ wo, wo = wr := ⟨_, rfl⟩
   go_wp2_with fail
   clear k7
   go_loopw [8] (fun i wq => ∃ k : Nat, k ≤ L.length ∧ i = .int .i64 (k : Int) ∧ Below w4.heap.size w4 wq ∧ Hid (One.OwnV 4 wq w4.heap.size ao n c ((B.marks L n k).map Value.bool))) (fun i _ => L.length - (intOf i).toNat)
   case atStart => exact ⟨0, by omega, rfl, HBR.out, HOW0⟩
   case round =>
    obtain ⟨k, hk, rfl, hbq, HOQ⟩ := hrel
    have HBQ := Lib.hid hbq
    clear hbq HOW0 HBR
    by_cases hlt : k < L.length
    ·have e2 : ((k : Int) < (L.length : Int)) = True := by simp; omega
     have hx : L[k]? = some (L[k]'hlt) := List.getElem?_eq_getElem _
     generalize L[k]'hlt = x at hx
     have hxn : x < n := by rw [HLN.out]; exact HLT.out k x hx
     obtain ⟨g1, rfl, _, hl1, c1⟩ := HO4.out.cell (i := k) (v := .int .i64 (x : Int)) (by unfold actV; rw [List.getElem?_map, hx]; rfl)
     replace c1 := (HBQ.out.cell (p := ⟨g1, k, none⟩) hl1).trans c1
     obtain ⟨g2, rfl, hg2, hl2, c2⟩ := HOQ.out.cell (i := x) (v := .bool ((B.marks L n k).getD x false)) (by
      rw [List.getElem?_map, List.getD_eq_getElem?_getD, List.getElem?_eq_getElem (by unfold B.marks; simpa using hxn)]; rfl)
     have f2 := HOQ.out.free x
     rw [Nat.zero_add] at f2
     have q0 : (0 : Int) ≤ (k : Int) := by omega
     have q1 : (k : Int) < (L.length : Int) := by omega
     have q2 : (0 : Int) ≤ (x : Int) := by omega
     have q3 : (x : Int) < n := by omega
     have HOP := Lib.hid (HOQ.out.put x (.bool true))
     have HBP := Lib.hid (HBQ.out.setCell (p := ⟨g2, x, none⟩) hg2 (.bool true))
     have HNX := Lib.hid (B.marks_next L n k x hx)
     clear hx hl1 hl2 hg2 hxn
     go_wp2_with fail
     go_roundw
     case rel =>
      refine ⟨k + 1, by omega, by go_num, HBP.out, Lib.hid ?_⟩
      rw [HNX.out, List.map_set]
      exact HOP.out
     case measure => simp [intOf]; omega
    ·obtain rfl : L.length = k := by omega
     have e2 : ((L.length : Int) < (L.length : Int)) = False := by simp
     go_wp2_with fail
     go_ret
     have hlen : (m.actives v).length = n := by unfold B.Msg.actives; rw [List.length_map, HLN.out]
     have hma := HMA.out
     rw [← HLN.out] at hma
     refine ⟨ao, c, by rw [hlen]; rfl, ?_, HB4.out.trans (HBQ.out.mono HB4.out.size)⟩
     rw [hlen, ← hma]
     exact HOQ.out.weaken HB4.out.size

end Code
end Go.Proofs.YtdpjbnjlognmeaaGreatDoor
