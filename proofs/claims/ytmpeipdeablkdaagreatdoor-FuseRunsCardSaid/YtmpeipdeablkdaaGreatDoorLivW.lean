/- Plain Lean: what live reckons, step by step: how many stay from a place on, what is read from a place on, the instructions that stay up to a place. -/
/- Package live: registers in one or the other; the register that is written; what is read from an instruction on. -/
/- To which instructions a way comes: as far as known behind k of them. -/
import Derived.Test.YtmpeipdeablkdaaGreatDoorPlain3
import Derived.Test.YtmpeipdeablkdaaGreatDoorRow
import Derived.Test.YtmpeipdeablkdaaGreatDoorPlainV
import Derived.StillTailTactics
import Derived.RegionTactic
import Derived.Deep.DrawnRows
import Derived.Test.YtmpeipdeablkdaaGreatDoorRowB
import Derived.Test.YtmpeipdeablkdaaGreatDoorVerQ
namespace Go.Proofs.YtmpeipdeablkdaaGreatDoor.B

/-- how many stay from a place on -/
def leftB (p : List Ins) (j : Nat) : Nat := idx p p.length - idx p j

theorem idx_top (p : List Ins) : ∀ j, p.length ≤ j → idx p j = idx p p.length := by
 intro j hj
 induction j with
 | zero => have : p.length = 0 := by omega
           rw [this]
 | succ j ih =>
  by_cases h : p.length = j + 1
  ·rw [h]
  ·rw [idx_idle (stay_far (by omega)), ih (by omega)]

theorem idx_le_top (p : List Ins) (j : Nat) : idx p j ≤ idx p p.length := by
 by_cases h : j ≤ p.length
 ·exact idx_mono p h
 ·rw [idx_top p j (by omega)]; exact Nat.le_refl _

theorem leftB_end (p : List Ins) {j : Nat} (h : p.length ≤ j) : leftB p j = 0 := by
 unfold leftB; rw [idx_top p j h]; omega

theorem leftB_step (p : List Ins) (i : Nat) : leftB p i = leftB p (i + 1) + if stay p i then 1 else 0 := by
 have h1 := idx_succ p i
 have h2 := idx_le_top p (i + 1)
 unfold leftB
 omega

theorem leftB_le (p : List Ins) (j : Nat) : leftB p j ≤ p.length := by
 have := idx_le p p.length
 unfold leftB; omega

theorem leftB_diff (p : List Ins) {a b : Nat} (h : a ≤ b) : leftB p a - leftB p b = idx p b - idx p a := by
 have h1 := idx_le_top p a
 have h2 := idx_le_top p b
 have h3 := idx_mono p h
 unfold leftB; omega

theorem leftB_mono (p : List Ins) {a b : Nat} (h : a ≤ b) : leftB p b ≤ leftB p a := by
 have h3 := idx_mono p h
 unfold leftB; omega

theorem leftB_lt (p : List Ins) {a b : Nat} (h : a ≤ b) : decide (leftB p b < leftB p a) = someIn (stay p) a b := by
 rw [someIn_idx p h]
 have h1 := idx_le_top p a
 have h2 := idx_le_top p b
 unfold leftB
 rw [decide_eq_decide]
 omega

/-- would an instruction stay, if a way comes to it -/
def usB (p : List Ins) (i : Nat) (x : Ins) : Bool := useful p.length x i (stay p) (rdAt p)

theorem stay_us {p : List Ins} {i : Nat} {x : Ins} (hx : p[i]? = some x) : stay p i = (reachB p i && usB p i x) := stay_eq hx

theorem us_halt {p : List Ins} {i : Nat} {x : Ins} (hx : p[i]? = some x) (h : x.op = 0) : usB p i x = decide (0 < leftB p (i + 1)) := by
 have hl := (List.getElem?_eq_some_iff.1 hx).1
 unfold usB useful
 rw [if_pos h, ← leftB_lt p (by omega), leftB_end p (Nat.le_refl _)]

theorem us_skips {p : List Ins} {i : Nat} {x : Ins} (h : x.skips = true) : usB p i x = decide (leftB p (i + 1 + x.n.toNat) < leftB p (i + 1)) := by
 unfold usB useful
 have h0 : x.op ≠ 0 := by unfold Ins.skips at h; simp at h; omega
 rw [if_neg h0, if_pos h, ← leftB_lt p (by omega)]

theorem us_on {p : List Ins} {i : Nat} {x : Ins} (h0 : x.op ≠ 0) (h : x.skips = false) : usB p i x = (!x.isW || rdAt p (i + 1) x.a.toNat) := by
 unfold usB useful
 rw [if_neg h0, if_neg (by simp [h])]
 have hn : x.next = true := by unfold Ins.skips at h; unfold Ins.next; simp at h ⊢; omega
 unfold behind
 rw [hn, h]
 simp

/-- what stays of the first k instructions -/
def dropTo (p : List Ins) (k : Nat) : List Ins := ((List.range k).filter (stay p)).map (fun i => keptIns p i (p.getD i default))

theorem dropTo_zero (p : List Ins) : dropTo p 0 = [] := rfl

theorem dropTo_stay {p : List Ins} {k : Nat} {x : Ins} (hx : p[k]? = some x) (h : stay p k = true) : dropTo p (k + 1) = dropTo p k ++ [keptIns p k x] := by
 unfold dropTo
 rw [List.range_succ, List.filter_append, List.map_append]
 simp [h, hx]

theorem dropTo_idle {p : List Ins} {k : Nat} (h : stay p k = false) : dropTo p (k + 1) = dropTo p k := by
 unfold dropTo
 rw [List.range_succ, List.filter_append, List.map_append]
 simp [h]

theorem dropTo_length (p : List Ins) (k : Nat) : (dropTo p k).length = idx p k := by
 unfold dropTo idx
 rw [List.length_map]

theorem dropTo_all (p : List Ins) : dropTo p p.length = drop p := by
 have key : ∀ (l : List Ins) (i : Nat), (∀ k, l[k]? = p[i + k]?) → dropTo p i ++ dropFrom p i l = dropTo p (i + l.length) := by
  intro l
  induction l with
  | nil => intro i _; simp [dropFrom]
  | cons x l ih =>
   intro i hl
   have hx : p[i]? = some x := by have := hl 0; simpa using this.symm
   have hl' : ∀ k, l[k]? = p[i + 1 + k]? := by
    intro k
    have := hl (k + 1)
    rw [List.getElem?_cons_succ] at this
    rw [this]; congr 1; omega
   have := ih (i + 1) hl'
   rw [List.length_cons, show i + (l.length + 1) = i + 1 + l.length by omega, ← this, dropFrom]
   cases hs : stay p i with
   | true => rw [if_pos rfl, dropTo_stay hx hs, List.append_assoc]; rfl
   | false => rw [if_neg (by simp), dropTo_idle hs]
 have := key p 0 (by intro k; simp)
 rw [dropTo_zero, List.nil_append, Nat.zero_add] at this
 exact this.symm

end Go.Proofs.YtmpeipdeablkdaaGreatDoor.B

namespace Go.Proofs.YtmpeipdeablkdaaGreatDoor
open Go.RowKit

namespace Code

attribute [local go_sem ↓] Go.wp_at_zero Go.wp_at_succ

/-- sixteen truths are answered -/
def RegsOut (f : Nat → Bool) (w : World) (e : Ending) (w' : World) : Prop := e = .returned (.agg (regsF f)) ∧ Below w.heap.size w w'

theorem info207 : (Tryz.prog.info? 207).map (·.size) = some 16 := by kernel_rfl

/-- so many registers have been looked at -/
structure OrAt (f g : Nat → Bool) (k : Nat) (w wr : World) : Prop where
 a : RegsIn wr w.heap.size 207 (fun r => if r < k then f r || g r else f r)
 b : RegsIn wr (w.heap.size + 1) 207 g
 out : RegsIn wr (w.heap.size + 1 + 1) 207 (fun _ => false)
 bel : Below w.heap.size w wr

theorem OrAt.next {f g : Nat → Bool} {k : Nat} {w wr : World} (h : OrAt f g k w wr) : OrAt f g (k + 1) w (wr.setCell ⟨w.heap.size, k, none⟩ (.bool (f k || g k))) := by
 refine ⟨(h.a.set k (f k || g k)).congr (fun j _ => ?_), CellsAt.other h.b _ _ (by simp), CellsAt.other h.out _ _ (by simp; omega), h.bel.setCell (Nat.le_refl _) _⟩
 by_cases e : j = k
 ·subst e; rw [if_pos rfl, if_pos (by omega)]
 ·rw [if_neg e]
  by_cases h1 : j < k
  ·rw [if_pos h1, if_pos (by omega)]
  ·rw [if_neg h1, if_neg (by omega)]

set_option maxRecDepth 100000 in
set_option maxHeartbeats 3200000 in
theorem or_any (f g : Nat → Bool) (w : World) : Calls Tryz.prog 140 #[.agg (regsF f), .agg (regsF g)] w (RegsOut (fun r => f r || g r) w) := by
 have HO : Hid (OrAt f g 0 w (((w.alloc (.cells (regsF f) 207)).alloc (.cells (regsF g) 207)).alloc (.cells (regsF fun _ => false) 207))) := by
  refine ⟨RegsIn.congr (((RegsIn.new f 207 w).alloc _).alloc _) (fun j _ => by rw [if_neg (by omega)]), ?_, ?_, (((Below.refl _ _).alloc (Nat.le_refl _) _).alloc (by simp) _).alloc (by simp; omega) _⟩
  ·have := (RegsIn.new g 207 (w.alloc (.cells (regsF f) 207))).alloc (.cells (regsF fun _ => false) 207)
   simpa using this
  ·have := RegsIn.new (fun _ => false) 207 ((w.alloc (.cells (regsF f) 207)).alloc (.cells (regsF g) 207))
   simpa using this
 unfold regsF at HO ⊢
 go_enter Tryz.func140, Tryz.ntmps140
 go_wp2_with fail
 go_loopw [6] (fun i wr => ∃ k : Nat, k ≤ 16 ∧ i = .int .i64 k ∧ OrAt f g k w wr) (fun i _ => 16 - (intOf i).toNat)
 case atStart => exact ⟨0, by omega, rfl, HO.out⟩
 case round =>
  obtain ⟨k, hk, rfl, hc⟩ := hrel
  have HC := Lib.hid hc
  by_cases hlt : k < 16
  ·have c0 : wr.cell? ⟨w.heap.size, k, none⟩ = some (.bool (f k)) := by simpa using CellsAt.cell hc.a hlt
   have c1 := CellsAt.cell hc.b hlt
   have f0 := CellsAt.free hc.a k
   have HN := Lib.hid hc.next
   have k0 : (0 : Int) ≤ (k : Int) := by omega
   have k1 : (k : Int) < 16 := by omega
   clear hc
   cases hf : f k with
   | true =>
    rw [hf] at c0 HN
    clear hf
    go_wp2_with fail
    go_roundw
    case rel => exact ⟨k + 1, by omega, by go_num, by simpa using HN.out⟩
    case measure => simp [intOf]; omega
   | false =>
    rw [hf] at c0 HN
    clear hf
    go_wp2_with fail
    go_roundw
    case rel => exact ⟨k + 1, by omega, by go_num, by simpa using HN.out⟩
    case measure => simp [intOf]; omega
  ·obtain rfl : k = 16 := by omega
   have hr := HC.out.a.range
   have ht : wr.there (w.heap.size + 1 + 1) 0 16 := CellsAt.there HC.out.out (by omega)
   have HS : Hid (RegsIn (wr.setCells (w.heap.size + 1 + 1) 0 (regsF fun r => f r || g r).toList) (w.heap.size + 1 + 1) 207 (fun r => f r || g r)) := RegsIn.store HC.out.out _
   have HB : Hid (Below w.heap.size w (wr.setCells (w.heap.size + 1 + 1) 0 (regsF fun r => f r || g r).toList)) := HC.out.bel.grown (grownBy_setCells _ _ _ _) (by have := HC.out.bel.size; omega) (fun k hk => by simp at hk; omega)
   have he : regsF (fun r => if r < 16 then f r || g r else f r) = regsF (fun r => f r || g r) := regsF_congr (fun k hk => by rw [if_pos hk])
   rw [he] at hr
   clear hc he
   generalize hv : (fun r => f r || g r) = v at *
   have HR := Lib.hid hr
   have HT := Lib.hid ht
   have HV := Lib.hid hv
   clear hr ht hv
   go_wp2_with (first
    | refine wpList_load_mid (by rfl) 207 _ (by rfl) w.heap.size 0 (by rfl) (regsF v).toList _ HR.out Tryz.underlying207 (by rfl) (by rw [info207]; rfl) ?_
    | refine wpList_store_mid (by rfl) 207 _ _ (by rfl) (w.heap.size + 1 + 1) 0 (regsF v) (by rfl) (by rfl) HT.out (by rw [info207]; rfl) (regsF_ones _) ?_)
   refine bodyPost_ret (v := .agg (regsF v)) ?_ rfl ?_
   rotate_left
   ·exact ⟨by rw [HV.out], HB.out⟩
   have hload := run_loadVar_mid (P := Tryz.prog) _ (w.heap.size + 1 + 1) 0 207 (regsF v).toList _ HS.out.range Tryz.underlying207 rfl (by rw [info207]; rfl)
   exact results_cell Tryz.results140 (by rfl) hload

/-- the register that is written (-1: none) -/
def wrI (x : B.Ins) : Int := if x.isW = true then x.a else -1

set_option maxRecDepth 100000 in
set_option maxHeartbeats 3200000 in
theorem written_any (x : B.Ins) (hr : x.right = true) (w : World) :
    Calls Tryz.prog 141 #[.agg #[.int .i64 x.op, .int .i64 x.a, .int .i64 x.b, .int .i64 x.n, .int .u64 x.imm]] w fun e w' => e = .returned (.int .i64 (wrI x)) ∧ Below w.heap.size w w' := by
 have ho := B.op_cases hr
 clear hr
 obtain ⟨o, a, c, n, m⟩ := x
 simp only at ho
 rcases ho with rfl | rfl | rfl | rfl | rfl | rfl | rfl | rfl | rfl | rfl | rfl | rfl | rfl | rfl | rfl | rfl | rfl | rfl | rfl | rfl
 all_goals go_enter Tryz.func141, Tryz.ntmps141
 all_goals go_wp2_with fail
 all_goals go_ret
 all_goals refine ⟨ret_int ?_, (Below.refl _ _).alloc (Nat.le_refl _) _⟩
 all_goals simp [wrI, B.Ins.isW]

/-- what is read from an instruction on, if this is read behind it -/
def aheadF (x : B.Ins) (f : Nat → Bool) (r : Nat) : Bool := x.reads r || (f r && !x.writes r)

end Code
end Go.Proofs.YtmpeipdeablkdaaGreatDoor

namespace Go.Proofs.YtmpeipdeablkdaaGreatDoor
open Go.RowKit

namespace Code

/-- does a way come, as far as known behind k instructions -/
def thereB (ps : List B.Ins) (k j : Nat) : Bool := (B.stAt ps k j).isSome

theorem there_next {ps : List B.Ins} {k : Nat} {x : B.Ins} (hx : ps[k]? = some x) (h : thereB ps k k = true) (j : Nat) : thereB ps (k + 1) j = (thereB ps k j || (x.next && decide (j = k + 1)) || (x.skips && decide (j = k + 1 + x.n.toNat))) := by
 unfold thereB at h ⊢
 cases hs : B.stAt ps k k with
 | none => rw [hs] at h; cases h
 | some v =>
  rw [stAt_some hx hs]
  unfold B.stNext
  cases x.next <;> cases x.skips <;> simp [B.come_isSome, Bool.or_comm, Bool.or_left_comm]

theorem there_same {ps : List B.Ins} {k : Nat} (h : thereB ps k k = false) (j : Nat) : thereB ps (k + 1) j = thereB ps k j := by
 unfold thereB at h ⊢
 cases hs : B.stAt ps k k with
 | none => rw [stAt_none hs]
 | some v => rw [hs] at h; cases h

theorem there_done {ps : List B.Ins} {j : Nat} (hj : j ≤ ps.length) : thereB ps ps.length j = B.reachB ps j := by
 unfold thereB
 rw [Bool.eq_iff_iff, B.reachB_iff, B.stAt_reach, B.reachBy_reach hj]

end Code
end Go.Proofs.YtmpeipdeablkdaaGreatDoor
