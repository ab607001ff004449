/- Plain Lean: what live reckons, step by step: how many stay from a place on, what is read from a place on, the instructions that stay up to a place. -/
/- Package live: registers in one or the other; the register that is written; what is read from an instruction on. -/
/- Package live: what is read from an instruction on. -/
/- Package live: to which instructions a way comes. -/
/- Package live: what nobody reads is left out. -/
/- Package live: Drop of a program that may not be run; two lists that are the same; what each statement of layer 16 asks first. -/
import Derived.Test.YtmpeipdeablkdaaGreatDoorPlain3
import Derived.Test.YtmpeipdeablkdaaGreatDoorRow
import Derived.Test.YtmpeipdeablkdaaGreatDoorPlainV
import Derived.StillTailTactics
import Derived.RegionTactic
import Derived.Deep.DrawnRows
import Derived.Deep.Cut
import Derived.Test.YtmpeipdeablkdaaGreatDoorRowB
import Derived.Test.YtmpeipdeablkdaaGreatDoorVerQ
import Derived.Test.YtmpeipdeablkdaaGreatDoorErrQ
import Derived.Test.YtmpeipdeablkdaaGreatDoorMore2
import Derived.Deep.DeepCutAuto
import Derived.Deep.CutBlock
import Derived.Deep.RegionHeld3
namespace Go.Proofs.YtmpeipdeablkdaaGreatDoor.B

/-- how many stay from a place on -/
def leftB (p : List Ins) (j : Nat) : Nat := idx p p.length - idx p j

theorem idx_top (p : List Ins) : ∀ j, p.length ≤ j → idx p j = idx p p.length := by
 intro j hj
 induction j with
 | zero => have : p.length = 0 := by omega
           rw [this]
 | succ j ih =>
  by_cases h : p.length = j + 1
  ·rw [h]
  ·rw [idx_idle (stay_far (by omega)), ih (by omega)]

theorem idx_le_top (p : List Ins) (j : Nat) : idx p j ≤ idx p p.length := by
 by_cases h : j ≤ p.length
 ·exact idx_mono p h
 ·rw [idx_top p j (by omega)]; exact Nat.le_refl _

theorem leftB_end (p : List Ins) {j : Nat} (h : p.length ≤ j) : leftB p j = 0 := by
 unfold leftB; rw [idx_top p j h]; omega

theorem leftB_step (p : List Ins) (i : Nat) : leftB p i = leftB p (i + 1) + if stay p i then 1 else 0 := by
 have h1 := idx_succ p i
 have h2 := idx_le_top p (i + 1)
 unfold leftB
 omega

theorem leftB_le (p : List Ins) (j : Nat) : leftB p j ≤ p.length := by
 have := idx_le p p.length
 unfold leftB; omega

theorem leftB_diff (p : List Ins) {a b : Nat} (h : a ≤ b) : leftB p a - leftB p b = idx p b - idx p a := by
 have h1 := idx_le_top p a
 have h2 := idx_le_top p b
 have h3 := idx_mono p h
 unfold leftB; omega

theorem leftB_mono (p : List Ins) {a b : Nat} (h : a ≤ b) : leftB p b ≤ leftB p a := by
 have h3 := idx_mono p h
 unfold leftB; omega

theorem leftB_lt (p : List Ins) {a b : Nat} (h : a ≤ b) : decide (leftB p b < leftB p a) = someIn (stay p) a b := by
 rw [someIn_idx p h]
 have h1 := idx_le_top p a
 have h2 := idx_le_top p b
 unfold leftB
 rw [decide_eq_decide]
 omega

/-- would an instruction stay, if a way comes to it -/
def usB (p : List Ins) (i : Nat) (x : Ins) : Bool := useful p.length x i (stay p) (rdAt p)

theorem stay_us {p : List Ins} {i : Nat} {x : Ins} (hx : p[i]? = some x) : stay p i = (reachB p i && usB p i x) := stay_eq hx

theorem us_halt {p : List Ins} {i : Nat} {x : Ins} (hx : p[i]? = some x) (h : x.op = 0) : usB p i x = decide (0 < leftB p (i + 1)) := by
 have hl := (List.getElem?_eq_some_iff.1 hx).1
 unfold usB useful
 rw [if_pos h, ← leftB_lt p (by omega), leftB_end p (Nat.le_refl _)]

theorem us_skips {p : List Ins} {i : Nat} {x : Ins} (h : x.skips = true) : usB p i x = decide (leftB p (i + 1 + x.n.toNat) < leftB p (i + 1)) := by
 unfold usB useful
 have h0 : x.op ≠ 0 := by unfold Ins.skips at h; simp at h; omega
 rw [if_neg h0, if_pos h, ← leftB_lt p (by omega)]

theorem us_on {p : List Ins} {i : Nat} {x : Ins} (h0 : x.op ≠ 0) (h : x.skips = false) : usB p i x = (!x.isW || rdAt p (i + 1) x.a.toNat) := by
 unfold usB useful
 rw [if_neg h0, if_neg (by simp [h])]
 have hn : x.next = true := by unfold Ins.skips at h; unfold Ins.next; simp at h ⊢; omega
 unfold behind
 rw [hn, h]
 simp

/-- what stays of the first k instructions -/
def dropTo (p : List Ins) (k : Nat) : List Ins := ((List.range k).filter (stay p)).map (fun i => keptIns p i (p.getD i default))

theorem dropTo_zero (p : List Ins) : dropTo p 0 = [] := rfl

theorem dropTo_stay {p : List Ins} {k : Nat} {x : Ins} (hx : p[k]? = some x) (h : stay p k = true) : dropTo p (k + 1) = dropTo p k ++ [keptIns p k x] := by
 unfold dropTo
 rw [List.range_succ, List.filter_append, List.map_append]
 simp [h, hx]

theorem dropTo_idle {p : List Ins} {k : Nat} (h : stay p k = false) : dropTo p (k + 1) = dropTo p k := by
 unfold dropTo
 rw [List.range_succ, List.filter_append, List.map_append]
 simp [h]

theorem dropTo_length (p : List Ins) (k : Nat) : (dropTo p k).length = idx p k := by
 unfold dropTo idx
 rw [List.length_map]

theorem dropTo_all (p : List Ins) : dropTo p p.length = drop p := by
 have key : ∀ (l : List Ins) (i : Nat), (∀ k, l[k]? = p[i + k]?) → dropTo p i ++ dropFrom p i l = dropTo p (i + l.length) := by
  intro l
  induction l with
  | nil => intro i _; simp [dropFrom]
  | cons x l ih =>
   intro i hl
   have hx : p[i]? = some x := by have := hl 0; simpa using this.symm
   have hl' : ∀ k, l[k]? = p[i + 1 + k]? := by
    intro k
    have := hl (k + 1)
    rw [List.getElem?_cons_succ] at this
    rw [this]; congr 1; omega
   have := ih (i + 1) hl'
   rw [List.length_cons, show i + (l.length + 1) = i + 1 + l.length by omega, ← this, dropFrom]
   cases hs : stay p i with
   | true => rw [if_pos rfl, dropTo_stay hx hs, List.append_assoc]; rfl
   | false => rw [if_neg (by simp), dropTo_idle hs]
 have := key p 0 (by intro k; simp)
 rw [dropTo_zero, List.nil_append, Nat.zero_add] at this
 exact this.symm

end Go.Proofs.YtmpeipdeablkdaaGreatDoor.B

namespace Go.Proofs.YtmpeipdeablkdaaGreatDoor
open Go.RowKit

namespace Code

attribute [local go_sem ↓] Go.wp_at_zero Go.wp_at_succ

/-- sixteen truths are answered -/
def RegsOut (f : Nat → Bool) (w : World) (e : Ending) (w' : World) : Prop := e = .returned (.agg (regsF f)) ∧ Below w.heap.size w w'

theorem info207 : (Tryz.prog.info? 207).map (·.size) = some 16 := by kernel_rfl

/-- so many registers have been looked at -/
structure OrAt (f g : Nat → Bool) (k : Nat) (w wr : World) : Prop where
 a : RegsIn wr w.heap.size 207 (fun r => if r < k then f r || g r else f r)
 b : RegsIn wr (w.heap.size + 1) 207 g
 out : RegsIn wr (w.heap.size + 1 + 1) 207 (fun _ => false)
 bel : Below w.heap.size w wr

theorem OrAt.next {f g : Nat → Bool} {k : Nat} {w wr : World} (h : OrAt f g k w wr) : OrAt f g (k + 1) w (wr.setCell ⟨w.heap.size, k, none⟩ (.bool (f k || g k))) := by
 refine ⟨(h.a.set k (f k || g k)).congr (fun j _ => ?_), CellsAt.other h.b _ _ (by simp), CellsAt.other h.out _ _ (by simp; omega), h.bel.setCell (Nat.le_refl _) _⟩
 by_cases e : j = k
 ·subst e; rw [if_pos rfl, if_pos (by omega)]
 ·rw [if_neg e]
  by_cases h1 : j < k
  ·rw [if_pos h1, if_pos (by omega)]
  ·rw [if_neg h1, if_neg (by omega)]

set_option maxRecDepth 100000 in
set_option maxHeartbeats 3200000 in
theorem or_any (f g : Nat → Bool) (w : World) : Calls Tryz.prog 140 #[.agg (regsF f), .agg (regsF g)] w (RegsOut (fun r => f r || g r) w) := by
 have HO : Hid (OrAt f g 0 w (((w.alloc (.cells (regsF f) 207)).alloc (.cells (regsF g) 207)).alloc (.cells (regsF fun _ => false) 207))) := by
  refine ⟨RegsIn.congr (((RegsIn.new f 207 w).alloc _).alloc _) (fun j _ => by rw [if_neg (by omega)]), ?_, ?_, (((Below.refl _ _).alloc (Nat.le_refl _) _).alloc (by simp) _).alloc (by simp; omega) _⟩
  ·have := (RegsIn.new g 207 (w.alloc (.cells (regsF f) 207))).alloc (.cells (regsF fun _ => false) 207)
   simpa using this
  ·have := RegsIn.new (fun _ => false) 207 ((w.alloc (.cells (regsF f) 207)).alloc (.cells (regsF g) 207))
   simpa using this
 unfold regsF at HO ⊢
 go_enter Tryz.func140, Tryz.ntmps140
 go_wp2_with fail
 go_loopw [6] (fun i wr => ∃ k : Nat, k ≤ 16 ∧ i = .int .i64 k ∧ OrAt f g k w wr) (fun i _ => 16 - (intOf i).toNat)
 case atStart => exact ⟨0, by omega, rfl, HO.out⟩
 case round =>
  obtain ⟨k, hk, rfl, hc⟩ := hrel
  have HC := Lib.hid hc
  by_cases hlt : k < 16
  ·have c0 : wr.cell? ⟨w.heap.size, k, none⟩ = some (.bool (f k)) := by simpa using CellsAt.cell hc.a hlt
   have c1 := CellsAt.cell hc.b hlt
   have f0 := CellsAt.free hc.a k
   have HN := Lib.hid hc.next
   have k0 : (0 : Int) ≤ (k : Int) := by omega
   have k1 : (k : Int) < 16 := by omega
   clear hc
   cases hf : f k with
   | true =>
    rw [hf] at c0 HN
    clear hf
    go_wp2_with fail
    go_roundw
    case rel => exact ⟨k + 1, by omega, by go_num, by simpa using HN.out⟩
    case measure => simp [intOf]; omega
   | false =>
    rw [hf] at c0 HN
    clear hf
    go_wp2_with fail
    go_roundw
    case rel => exact ⟨k + 1, by omega, by go_num, by simpa using HN.out⟩
    case measure => simp [intOf]; omega
  ·obtain rfl : k = 16 := by omega
   have hr := HC.out.a.range
   have ht : wr.there (w.heap.size + 1 + 1) 0 16 := CellsAt.there HC.out.out (by omega)
   have HS : Hid (RegsIn (wr.setCells (w.heap.size + 1 + 1) 0 (regsF fun r => f r || g r).toList) (w.heap.size + 1 + 1) 207 (fun r => f r || g r)) := RegsIn.store HC.out.out _
   have HB : Hid (Below w.heap.size w (wr.setCells (w.heap.size + 1 + 1) 0 (regsF fun r => f r || g r).toList)) := HC.out.bel.grown (grownBy_setCells _ _ _ _) (by have := HC.out.bel.size; omega) (fun k hk => by simp at hk; omega)
   have he : regsF (fun r => if r < 16 then f r || g r else f r) = regsF (fun r => f r || g r) := regsF_congr (fun k hk => by rw [if_pos hk])
   rw [he] at hr
   clear hc he
   generalize hv : (fun r => f r || g r) = v at *
   have HR := Lib.hid hr
   have HT := Lib.hid ht
   have HV := Lib.hid hv
   clear hr ht hv
   go_wp2_with (first
    | refine wpList_load_mid (by rfl) 207 _ (by rfl) w.heap.size 0 (by rfl) (regsF v).toList _ HR.out Tryz.underlying207 (by rfl) (by rw [info207]; rfl) ?_
    | refine wpList_store_mid (by rfl) 207 _ _ (by rfl) (w.heap.size + 1 + 1) 0 (regsF v) (by rfl) (by rfl) HT.out (by rw [info207]; rfl) (regsF_ones _) ?_)
   refine bodyPost_ret (v := .agg (regsF v)) ?_ rfl ?_
   rotate_left
   ·exact ⟨by rw [HV.out], HB.out⟩
   have hload := run_loadVar_mid (P := Tryz.prog) _ (w.heap.size + 1 + 1) 0 207 (regsF v).toList _ HS.out.range Tryz.underlying207 rfl (by rw [info207]; rfl)
   exact results_cell Tryz.results140 (by rfl) hload

/-- the register that is written (-1: none) -/
def wrI (x : B.Ins) : Int := if x.isW = true then x.a else -1

set_option maxRecDepth 100000 in
set_option maxHeartbeats 3200000 in
theorem written_any (x : B.Ins) (hr : x.right = true) (w : World) :
    Calls Tryz.prog 141 #[.agg #[.int .i64 x.op, .int .i64 x.a, .int .i64 x.b, .int .i64 x.n, .int .u64 x.imm]] w fun e w' => e = .returned (.int .i64 (wrI x)) ∧ Below w.heap.size w w' := by
 have ho := B.op_cases hr
 clear hr
 obtain ⟨o, a, c, n, m⟩ := x
 simp only at ho
 rcases ho with rfl | rfl | rfl | rfl | rfl | rfl | rfl | rfl | rfl | rfl | rfl | rfl | rfl | rfl | rfl | rfl | rfl | rfl | rfl | rfl
 all_goals go_enter Tryz.func141, Tryz.ntmps141
 all_goals go_wp2_with fail
 all_goals go_ret
 all_goals refine ⟨ret_int ?_, (Below.refl _ _).alloc (Nat.le_refl _) _⟩
 all_goals simp [wrI, B.Ins.isW]

/-- what is read from an instruction on, if this is read behind it -/
def aheadF (x : B.Ins) (f : Nat → Bool) (r : Nat) : Bool := x.reads r || (f r && !x.writes r)

end Code
end Go.Proofs.YtmpeipdeablkdaaGreatDoor

namespace Go.Proofs.YtmpeipdeablkdaaGreatDoor
open Go.RowKit

namespace Code

attribute [local go_sem ↓] Go.wp_at_zero Go.wp_at_succ

theorem beq_nat (a r : Nat) : ((a : Int) == (r : Int)) = decide (r = a) := by
 rw [Bool.eq_iff_iff]; simp; omega

set_option maxRecDepth 100000 in
set_option maxHeartbeats 6400000 in
theorem ahead_any (x : B.Ins) (hr : x.right = true) (f : Nat → Bool) (w : World) :
    Calls Tryz.prog 142 #[.agg (regsF f), .agg #[.int .i64 x.op, .int .i64 x.a, .int .i64 x.b, .int .i64 x.n, .int .u64 x.imm]] w (RegsOut (aheadF x f) w) := by
 have ho := B.op_cases hr
 have hb := B.right_bounds hr
 have hbb : (2 ≤ x.op ∧ x.op ≤ 5) → x.b ≤ 15 := by
  intro h
  have := hr
  unfold B.Ins.right B.hiB at this
  simp [h] at this
  omega
 obtain ⟨o, a, c, n, m⟩ := x
 simp only at ho hb hbb
 obtain ⟨A, rfl⟩ : ∃ A : Nat, a = A := ⟨a.toNat, by omega⟩
 obtain ⟨D, rfl⟩ : ∃ D : Nat, c = D := ⟨c.toNat, by omega⟩
 have HRT := Lib.hid hr
 have a0 : (0 : Int) ≤ (A : Int) := by omega
 have a1 : (A : Int) < 16 := by omega
 have a16 : A < 16 := by omega
 have b0 : (0 : Int) ≤ (D : Int) := by omega
 have h0 : Hid (RegsIn (((w.alloc (.cells (regsF f) 207)).alloc (.cells #[.int .i64 o, .int .i64 A, .int .i64 D, .int .i64 n, .int .u64 m] 24)).alloc (.cells (regsF fun _ => false) 207)) w.heap.size 207 f ∧
     RegsIn (((w.alloc (.cells (regsF f) 207)).alloc (.cells #[.int .i64 o, .int .i64 A, .int .i64 D, .int .i64 n, .int .u64 m] 24)).alloc (.cells (regsF fun _ => false) 207)) (w.heap.size + 1 + 1) 207 (fun _ => false) ∧
     (((w.alloc (.cells (regsF f) 207)).alloc (.cells #[.int .i64 o, .int .i64 A, .int .i64 D, .int .i64 n, .int .u64 m] 24)).alloc (.cells (regsF fun _ => false) 207)).heap[w.heap.size + 1]? = some (.cells #[.int .i64 o, .int .i64 A, .int .i64 D, .int .i64 n, .int .u64 m] 24 (0, 0)) ∧
     Below w.heap.size w (((w.alloc (.cells (regsF f) 207)).alloc (.cells #[.int .i64 o, .int .i64 A, .int .i64 D, .int .i64 n, .int .u64 m] 24)).alloc (.cells (regsF fun _ => false) 207))) := by
  refine ⟨((RegsIn.new f 207 w).alloc _).alloc _, ?_, ?_, (((Below.refl _ _).alloc (Nat.le_refl _) _).alloc (by simp) _).alloc (by simp; omega) _⟩
  ·have := RegsIn.new (fun _ => false) 207 ((w.alloc (.cells (regsF f) 207)).alloc (.cells #[.int .i64 o, .int .i64 A, .int .i64 D, .int .i64 n, .int .u64 m] 24))
   simpa using this
  ·have h1 := heap_alloc_new (w.alloc (.cells (regsF f) 207)) (.cells #[.int .i64 o, .int .i64 A, .int .i64 D, .int .i64 n, .int .u64 m] 24)
   have h2 := ((Below.refl ((w.alloc (.cells (regsF f) 207)).heap.size + 1) ((w.alloc (.cells (regsF f) 207)).alloc (.cells #[.int .i64 o, .int .i64 A, .int .i64 D, .int .i64 n, .int .u64 m] 24))).alloc (by simp) (.cells (regsF fun _ => false) 207)).block (w.heap.size + 1) (by simp)
   rw [h2]
   simpa using h1
 clear hr hb
 have HBB := Lib.hid hbb
 clear hbb
 unfold regsF at h0 ⊢
 go_enter Tryz.func142, Tryz.ntmps142
 go_wp2_with fail
 refine (written_any ⟨o, A, D, n, m⟩ HRT.out _).mono ?_
 rintro e w2 ⟨rfl, hb2⟩
 have HA : Hid (RegsIn w2 w.heap.size 207 f) := CellsAt.below h0.out.1 hb2 (by simp; omega)
 have HO : Hid (RegsIn w2 (w.heap.size + 1 + 1) 207 (fun _ => false)) := CellsAt.below h0.out.2.1 hb2 (by simp)
 have HX : Hid (w2.heap[w.heap.size + 1]? = some (.cells #[.int .i64 o, .int .i64 A, .int .i64 D, .int .i64 n, .int .u64 m] 24 (0, 0))) := (hb2.block (w.heap.size + 1) (by simp)).trans h0.out.2.2.1
 have HB2 : Hid (Below w.heap.size w w2) := h0.out.2.2.2.trans (hb2.mono (by simp; omega))
 clear h0 hb2
 have c0 : w2.cell? ⟨w.heap.size + 1, 0, none⟩ = some (.int .i64 o) := by rw [cell_of_row _ _ _ _ _ _ HX.out]; rfl
 have c1 : w2.cell? ⟨w.heap.size + 1, 1, none⟩ = some (.int .i64 A) := by rw [cell_of_row _ _ _ _ _ _ HX.out]; rfl
 have c2 : w2.cell? ⟨w.heap.size + 1, 2, none⟩ = some (.int .i64 D) := by rw [cell_of_row _ _ _ _ _ _ HX.out]; rfl
 have cA := CellsAt.cell HA.out a16
 have fA := CellsAt.free HA.out A
 have fB := CellsAt.free HA.out D
 have hsz : w.heap.size + 1 + 1 < w2.heap.size := CellsAt.blk HO.out
 rcases ho with rfl | rfl | rfl | rfl | rfl | rfl | rfl | rfl | rfl | rfl | rfl | rfl | rfl | rfl | rfl | rfl | rfl | rfl | rfl | rfl
 case inl =>
  have hw : wrI ⟨0, A, D, n, m⟩ = -1 := rfl
  rw [hw]
  go_upto_region 22 with fail
  obtain ⟨wx, hwx⟩ : ∃ wx, w2 = wx := ⟨_, rfl⟩
  obtain ⟨g, hg⟩ : ∃ g, aheadF ⟨0, A, D, n, m⟩ f = g := ⟨_, rfl⟩
  have HG := Lib.hid hg
  have HGA : Hid (RegsIn wx w.heap.size 207 g) := by
   rw [← hwx, ← hg]
   refine RegsIn.congr HA.out (fun r _ => ?_)
   simp only [aheadF, B.Ins.reads, B.Ins.writes, B.Ins.isW, beq_nat]
   simp
  have HGO : Hid (RegsIn wx (w.heap.size + 1 + 1) 207 (fun _ => false)) := by rw [← hwx]; exact HO.out
  have HGB : Hid (Below w.heap.size w wx) := by rw [← hwx]; exact HB2.out
  rw [hwx]
  clear hwx hg hsz c0 c1 c2 cA fA fB HA HO HX HB2
  have HR := Lib.hid (RegsIn.range HGA.out)
  have HT : Hid ((wx).there (w.heap.size + 1 + 1) 0 16) := CellsAt.there HGO.out (by omega)
  have HS : Hid (RegsIn ((wx).setCells (w.heap.size + 1 + 1) 0 (regsF g).toList) (w.heap.size + 1 + 1) 207 g) := RegsIn.store HGO.out _
  have HB : Hid (Below w.heap.size w ((wx).setCells (w.heap.size + 1 + 1) 0 (regsF g).toList)) := HGB.out.grown (grownBy_setCells _ _ _ _) (by have := HGB.out.size; omega) (fun k hk => by simp at hk; omega)
  go_wp2_with (first
   | refine wpList_load_mid (by rfl) 207 _ (by rfl) w.heap.size 0 (by rfl) (regsF g).toList _ HR.out Tryz.underlying207 (by rfl) (by rw [info207]; rfl) ?_
   | refine wpList_store_mid (by rfl) 207 _ _ (by rfl) (w.heap.size + 1 + 1) 0 (regsF g) (by rfl) (by rfl) HT.out (by rw [info207]; rfl) (regsF_ones _) ?_)
  refine bodyPost_ret (v := .agg (regsF g)) ?_ rfl ?_
  rotate_left
  ·exact ⟨by rw [HG.out], HB.out⟩
  exact results_cell Tryz.results142 (by rfl) (run_loadVar_mid (P := Tryz.prog) _ (w.heap.size + 1 + 1) 0 207 (regsF g).toList _ HS.out.range Tryz.underlying207 rfl (by rw [info207]; rfl))
 case inr.inl =>
  have hw : wrI ⟨1, A, D, n, m⟩ = A := rfl
  rw [hw]
  go_upto_region 22 with fail
  obtain ⟨wx, hwx⟩ : ∃ wx, w2.setCell ⟨w.heap.size, A, none⟩ (.bool false) = wx := ⟨_, rfl⟩
  obtain ⟨g, hg⟩ : ∃ g, aheadF ⟨1, A, D, n, m⟩ f = g := ⟨_, rfl⟩
  have HG := Lib.hid hg
  have HGA : Hid (RegsIn wx w.heap.size 207 g) := by
   rw [← hwx, ← hg]
   refine RegsIn.congr (RegsIn.set HA.out A false) (fun r _ => ?_)
   simp only [aheadF, B.Ins.reads, B.Ins.writes, B.Ins.isW, beq_nat]
   by_cases e : r = A <;> simp [e]
  have HGO : Hid (RegsIn wx (w.heap.size + 1 + 1) 207 (fun _ => false)) := by rw [← hwx]; exact CellsAt.other HO.out _ _ (by simp; omega)
  have HGB : Hid (Below w.heap.size w wx) := by rw [← hwx]; exact HB2.out.setCell (Nat.le_refl _) _
  rw [hwx]
  clear hwx hg hsz c0 c1 c2 cA fA fB HA HO HX HB2
  have HR := Lib.hid (RegsIn.range HGA.out)
  have HT : Hid ((wx).there (w.heap.size + 1 + 1) 0 16) := CellsAt.there HGO.out (by omega)
  have HS : Hid (RegsIn ((wx).setCells (w.heap.size + 1 + 1) 0 (regsF g).toList) (w.heap.size + 1 + 1) 207 g) := RegsIn.store HGO.out _
  have HB : Hid (Below w.heap.size w ((wx).setCells (w.heap.size + 1 + 1) 0 (regsF g).toList)) := HGB.out.grown (grownBy_setCells _ _ _ _) (by have := HGB.out.size; omega) (fun k hk => by simp at hk; omega)
  go_wp2_with (first
   | refine wpList_load_mid (by rfl) 207 _ (by rfl) w.heap.size 0 (by rfl) (regsF g).toList _ HR.out Tryz.underlying207 (by rfl) (by rw [info207]; rfl) ?_
   | refine wpList_store_mid (by rfl) 207 _ _ (by rfl) (w.heap.size + 1 + 1) 0 (regsF g) (by rfl) (by rfl) HT.out (by rw [info207]; rfl) (regsF_ones _) ?_)
  refine bodyPost_ret (v := .agg (regsF g)) ?_ rfl ?_
  rotate_left
  ·exact ⟨by rw [HG.out], HB.out⟩
  exact results_cell Tryz.results142 (by rfl) (run_loadVar_mid (P := Tryz.prog) _ (w.heap.size + 1 + 1) 0 207 (regsF g).toList _ HS.out.range Tryz.underlying207 rfl (by rw [info207]; rfl))
 case inr.inr.inl =>
  have hw : wrI ⟨2, A, D, n, m⟩ = A := rfl
  rw [hw]
  have b16 : D < 16 := by have := HBB.out; omega
  have b1 : (D : Int) < 16 := by omega
  have cB : (w2.setCell ⟨w.heap.size, A, none⟩ (.bool false)).cell? ⟨w.heap.size, D, none⟩ = some (.bool (if D = A then false else f D)) := CellsAt.cell (RegsIn.set HA.out A false) b16
  go_upto_region 22 with fail
  obtain ⟨wx, hwx⟩ : ∃ wx, (w2.setCell ⟨w.heap.size, A, none⟩ (.bool false)).setCell ⟨w.heap.size, D, none⟩ (.bool true) = wx := ⟨_, rfl⟩
  obtain ⟨g, hg⟩ : ∃ g, aheadF ⟨2, A, D, n, m⟩ f = g := ⟨_, rfl⟩
  have HG := Lib.hid hg
  have HGA : Hid (RegsIn wx w.heap.size 207 g) := by
   rw [← hwx, ← hg]
   refine RegsIn.congr (RegsIn.set (RegsIn.set HA.out A false) D true) (fun r _ => ?_)
   simp only [aheadF, B.Ins.reads, B.Ins.writes, B.Ins.isW, beq_nat]
   by_cases e : r = A <;> by_cases e2 : r = D <;> simp [e, e2]
  have HGO : Hid (RegsIn wx (w.heap.size + 1 + 1) 207 (fun _ => false)) := by rw [← hwx]; exact CellsAt.other (CellsAt.other HO.out _ _ (by simp; omega)) _ _ (by simp; omega)
  have HGB : Hid (Below w.heap.size w wx) := by rw [← hwx]; exact (HB2.out.setCell (Nat.le_refl _) _).setCell (Nat.le_refl _) _
  rw [hwx]
  clear hwx hg hsz c0 c1 c2 cA fA fB HA HO HX HB2 cB
  have HR := Lib.hid (RegsIn.range HGA.out)
  have HT : Hid ((wx).there (w.heap.size + 1 + 1) 0 16) := CellsAt.there HGO.out (by omega)
  have HS : Hid (RegsIn ((wx).setCells (w.heap.size + 1 + 1) 0 (regsF g).toList) (w.heap.size + 1 + 1) 207 g) := RegsIn.store HGO.out _
  have HB : Hid (Below w.heap.size w ((wx).setCells (w.heap.size + 1 + 1) 0 (regsF g).toList)) := HGB.out.grown (grownBy_setCells _ _ _ _) (by have := HGB.out.size; omega) (fun k hk => by simp at hk; omega)
  go_wp2_with (first
   | refine wpList_load_mid (by rfl) 207 _ (by rfl) w.heap.size 0 (by rfl) (regsF g).toList _ HR.out Tryz.underlying207 (by rfl) (by rw [info207]; rfl) ?_
   | refine wpList_store_mid (by rfl) 207 _ _ (by rfl) (w.heap.size + 1 + 1) 0 (regsF g) (by rfl) (by rfl) HT.out (by rw [info207]; rfl) (regsF_ones _) ?_)
  refine bodyPost_ret (v := .agg (regsF g)) ?_ rfl ?_
  rotate_left
  ·exact ⟨by rw [HG.out], HB.out⟩
  exact results_cell Tryz.results142 (by rfl) (run_loadVar_mid (P := Tryz.prog) _ (w.heap.size + 1 + 1) 0 207 (regsF g).toList _ HS.out.range Tryz.underlying207 rfl (by rw [info207]; rfl))
 case inr.inr.inr.inl =>
  have hw : wrI ⟨3, A, D, n, m⟩ = A := rfl
  rw [hw]
  have b16 : D < 16 := by have := HBB.out; omega
  have b1 : (D : Int) < 16 := by omega
  obtain ⟨w3, hw3⟩ : ∃ w3, w2.setCell ⟨w.heap.size, A, none⟩ (.bool false) = w3 := ⟨_, rfl⟩
  have HA3 : Hid (RegsIn w3 w.heap.size 207 (fun r => if r = A then false else f r)) := by rw [← hw3]; exact RegsIn.set HA.out A false
  have HO3 : Hid (RegsIn w3 (w.heap.size + 1 + 1) 207 (fun _ => false)) := by rw [← hw3]; exact CellsAt.other HO.out _ _ (by simp; omega)
  have HB3 : Hid (Below w.heap.size w w3) := by rw [← hw3]; exact HB2.out.setCell (Nat.le_refl _) _
  have HX3 : Hid (w3.heap[w.heap.size + 1]? = some (.cells #[.int .i64 3, .int .i64 A, .int .i64 D, .int .i64 n, .int .u64 m] 24 (0, 0))) := by rw [← hw3]; exact (blk_other _ (by simp)).trans HX.out
  have hsz3 : w.heap.size + 1 + 1 < w3.heap.size := CellsAt.blk HO3.out
  have HW3 := Lib.hid hw3
  clear hw3
  go_upto_region 10 with fail
  rw [HW3.out]
  clear HW3 hsz c0 c1 c2 cA fA fB
  have c1 : w3.cell? ⟨w.heap.size + 1, 1, none⟩ = some (.int .i64 A) := by rw [cell_of_row _ _ _ _ _ _ HX3.out]; rfl
  have c2 : w3.cell? ⟨w.heap.size + 1, 2, none⟩ = some (.int .i64 D) := by rw [cell_of_row _ _ _ _ _ _ HX3.out]; rfl
  have cA := CellsAt.cell HA3.out a16
  have cB := CellsAt.cell HA3.out b16
  have cAB := CellsAt.cell (RegsIn.set HA3.out D true) a16
  have cBA := CellsAt.cell (RegsIn.set HA3.out A true) b16
  have fA := CellsAt.free HA3.out A
  have fB := CellsAt.free HA3.out D
  have HAB := Lib.hid (RegsIn.set (RegsIn.set HA3.out A true) D true)
  have HBA := Lib.hid (RegsIn.set (RegsIn.set HA3.out D true) A true)
  go_region
  all_goals go_upto_region 22 with fail
  ·obtain ⟨wx, hwx⟩ : ∃ wx, ((w3.setCell ⟨w.heap.size, A, none⟩ (.bool true)).setCell ⟨w.heap.size, D, none⟩ (.bool true)).drew = wx := ⟨_, rfl⟩
   obtain ⟨g, hg⟩ : ∃ g, aheadF ⟨3, A, D, n, m⟩ f = g := ⟨_, rfl⟩
   have HG := Lib.hid hg
   have HGA : Hid (RegsIn wx w.heap.size 207 g) := by
    rw [← hwx, ← hg]
    refine CellsAt.of (RegsIn.congr HAB.out (fun r _ => ?_)) rfl
    simp only [aheadF, B.Ins.reads, B.Ins.writes, B.Ins.isW, beq_nat]
    by_cases e : r = A <;> by_cases e2 : r = D <;> simp [e, e2]
   have HGO : Hid (RegsIn wx (w.heap.size + 1 + 1) 207 (fun _ => false)) := by rw [← hwx]; exact CellsAt.of (CellsAt.other (CellsAt.other HO3.out _ _ (by simp; omega)) _ _ (by simp; omega)) rfl
   have HGB : Hid (Below w.heap.size w wx) := by rw [← hwx]; exact ((HB3.out.setCell (Nat.le_refl _) _).setCell (Nat.le_refl _) _).drew
   rw [hwx]
   clear hwx hg hsz3 c1 c2 cA cB cAB cBA fA fB HA3 HO3 HX3 HB3 HAB HBA
   have HR := Lib.hid (RegsIn.range HGA.out)
   have HT : Hid ((wx).there (w.heap.size + 1 + 1) 0 16) := CellsAt.there HGO.out (by omega)
   have HS : Hid (RegsIn ((wx).setCells (w.heap.size + 1 + 1) 0 (regsF g).toList) (w.heap.size + 1 + 1) 207 g) := RegsIn.store HGO.out _
   have HB : Hid (Below w.heap.size w ((wx).setCells (w.heap.size + 1 + 1) 0 (regsF g).toList)) := HGB.out.grown (grownBy_setCells _ _ _ _) (by have := HGB.out.size; omega) (fun k hk => by simp at hk; omega)
   go_wp2_with (first
    | refine wpList_load_mid (by rfl) 207 _ (by rfl) w.heap.size 0 (by rfl) (regsF g).toList _ HR.out Tryz.underlying207 (by rfl) (by rw [info207]; rfl) ?_
    | refine wpList_store_mid (by rfl) 207 _ _ (by rfl) (w.heap.size + 1 + 1) 0 (regsF g) (by rfl) (by rfl) HT.out (by rw [info207]; rfl) (regsF_ones _) ?_)
   refine bodyPost_ret (v := .agg (regsF g)) ?_ rfl ?_
   rotate_left
   ·exact ⟨by rw [HG.out], HB.out⟩
   exact results_cell Tryz.results142 (by rfl) (run_loadVar_mid (P := Tryz.prog) _ (w.heap.size + 1 + 1) 0 207 (regsF g).toList _ HS.out.range Tryz.underlying207 rfl (by rw [info207]; rfl))
 case inr.inr.inr.inr.inl =>
  have hw : wrI ⟨4, A, D, n, m⟩ = A := rfl
  rw [hw]
  have b16 : D < 16 := by have := HBB.out; omega
  have b1 : (D : Int) < 16 := by omega
  obtain ⟨w3, hw3⟩ : ∃ w3, w2.setCell ⟨w.heap.size, A, none⟩ (.bool false) = w3 := ⟨_, rfl⟩
  have HA3 : Hid (RegsIn w3 w.heap.size 207 (fun r => if r = A then false else f r)) := by rw [← hw3]; exact RegsIn.set HA.out A false
  have HO3 : Hid (RegsIn w3 (w.heap.size + 1 + 1) 207 (fun _ => false)) := by rw [← hw3]; exact CellsAt.other HO.out _ _ (by simp; omega)
  have HB3 : Hid (Below w.heap.size w w3) := by rw [← hw3]; exact HB2.out.setCell (Nat.le_refl _) _
  have HX3 : Hid (w3.heap[w.heap.size + 1]? = some (.cells #[.int .i64 4, .int .i64 A, .int .i64 D, .int .i64 n, .int .u64 m] 24 (0, 0))) := by rw [← hw3]; exact (blk_other _ (by simp)).trans HX.out
  have hsz3 : w.heap.size + 1 + 1 < w3.heap.size := CellsAt.blk HO3.out
  have HW3 := Lib.hid hw3
  clear hw3
  go_upto_region 10 with fail
  rw [HW3.out]
  clear HW3 hsz c0 c1 c2 cA fA fB
  have c1 : w3.cell? ⟨w.heap.size + 1, 1, none⟩ = some (.int .i64 A) := by rw [cell_of_row _ _ _ _ _ _ HX3.out]; rfl
  have c2 : w3.cell? ⟨w.heap.size + 1, 2, none⟩ = some (.int .i64 D) := by rw [cell_of_row _ _ _ _ _ _ HX3.out]; rfl
  have cA := CellsAt.cell HA3.out a16
  have cB := CellsAt.cell HA3.out b16
  have cAB := CellsAt.cell (RegsIn.set HA3.out D true) a16
  have cBA := CellsAt.cell (RegsIn.set HA3.out A true) b16
  have fA := CellsAt.free HA3.out A
  have fB := CellsAt.free HA3.out D
  have HAB := Lib.hid (RegsIn.set (RegsIn.set HA3.out A true) D true)
  have HBA := Lib.hid (RegsIn.set (RegsIn.set HA3.out D true) A true)
  go_region
  all_goals go_upto_region 22 with fail
  ·obtain ⟨wx, hwx⟩ : ∃ wx, ((w3.setCell ⟨w.heap.size, A, none⟩ (.bool true)).setCell ⟨w.heap.size, D, none⟩ (.bool true)).drew = wx := ⟨_, rfl⟩
   obtain ⟨g, hg⟩ : ∃ g, aheadF ⟨4, A, D, n, m⟩ f = g := ⟨_, rfl⟩
   have HG := Lib.hid hg
   have HGA : Hid (RegsIn wx w.heap.size 207 g) := by
    rw [← hwx, ← hg]
    refine CellsAt.of (RegsIn.congr HAB.out (fun r _ => ?_)) rfl
    simp only [aheadF, B.Ins.reads, B.Ins.writes, B.Ins.isW, beq_nat]
    by_cases e : r = A <;> by_cases e2 : r = D <;> simp [e, e2]
   have HGO : Hid (RegsIn wx (w.heap.size + 1 + 1) 207 (fun _ => false)) := by rw [← hwx]; exact CellsAt.of (CellsAt.other (CellsAt.other HO3.out _ _ (by simp; omega)) _ _ (by simp; omega)) rfl
   have HGB : Hid (Below w.heap.size w wx) := by rw [← hwx]; exact ((HB3.out.setCell (Nat.le_refl _) _).setCell (Nat.le_refl _) _).drew
   rw [hwx]
   clear hwx hg hsz3 c1 c2 cA cB cAB cBA fA fB HA3 HO3 HX3 HB3 HAB HBA
   have HR := Lib.hid (RegsIn.range HGA.out)
   have HT : Hid ((wx).there (w.heap.size + 1 + 1) 0 16) := CellsAt.there HGO.out (by omega)
   have HS : Hid (RegsIn ((wx).setCells (w.heap.size + 1 + 1) 0 (regsF g).toList) (w.heap.size + 1 + 1) 207 g) := RegsIn.store HGO.out _
   have HB : Hid (Below w.heap.size w ((wx).setCells (w.heap.size + 1 + 1) 0 (regsF g).toList)) := HGB.out.grown (grownBy_setCells _ _ _ _) (by have := HGB.out.size; omega) (fun k hk => by simp at hk; omega)
   go_wp2_with (first
    | refine wpList_load_mid (by rfl) 207 _ (by rfl) w.heap.size 0 (by rfl) (regsF g).toList _ HR.out Tryz.underlying207 (by rfl) (by rw [info207]; rfl) ?_
    | refine wpList_store_mid (by rfl) 207 _ _ (by rfl) (w.heap.size + 1 + 1) 0 (regsF g) (by rfl) (by rfl) HT.out (by rw [info207]; rfl) (regsF_ones _) ?_)
   refine bodyPost_ret (v := .agg (regsF g)) ?_ rfl ?_
   rotate_left
   ·exact ⟨by rw [HG.out], HB.out⟩
   exact results_cell Tryz.results142 (by rfl) (run_loadVar_mid (P := Tryz.prog) _ (w.heap.size + 1 + 1) 0 207 (regsF g).toList _ HS.out.range Tryz.underlying207 rfl (by rw [info207]; rfl))
 case inr.inr.inr.inr.inr.inl =>
  have hw : wrI ⟨5, A, D, n, m⟩ = A := rfl
  rw [hw]
  have b16 : D < 16 := by have := HBB.out; omega
  have b1 : (D : Int) < 16 := by omega
  obtain ⟨w3, hw3⟩ : ∃ w3, w2.setCell ⟨w.heap.size, A, none⟩ (.bool false) = w3 := ⟨_, rfl⟩
  have HA3 : Hid (RegsIn w3 w.heap.size 207 (fun r => if r = A then false else f r)) := by rw [← hw3]; exact RegsIn.set HA.out A false
  have HO3 : Hid (RegsIn w3 (w.heap.size + 1 + 1) 207 (fun _ => false)) := by rw [← hw3]; exact CellsAt.other HO.out _ _ (by simp; omega)
  have HB3 : Hid (Below w.heap.size w w3) := by rw [← hw3]; exact HB2.out.setCell (Nat.le_refl _) _
  have HX3 : Hid (w3.heap[w.heap.size + 1]? = some (.cells #[.int .i64 5, .int .i64 A, .int .i64 D, .int .i64 n, .int .u64 m] 24 (0, 0))) := by rw [← hw3]; exact (blk_other _ (by simp)).trans HX.out
  have hsz3 : w.heap.size + 1 + 1 < w3.heap.size := CellsAt.blk HO3.out
  have HW3 := Lib.hid hw3
  clear hw3
  go_upto_region 10 with fail
  rw [HW3.out]
  clear HW3 hsz c0 c1 c2 cA fA fB
  have c1 : w3.cell? ⟨w.heap.size + 1, 1, none⟩ = some (.int .i64 A) := by rw [cell_of_row _ _ _ _ _ _ HX3.out]; rfl
  have c2 : w3.cell? ⟨w.heap.size + 1, 2, none⟩ = some (.int .i64 D) := by rw [cell_of_row _ _ _ _ _ _ HX3.out]; rfl
  have cA := CellsAt.cell HA3.out a16
  have cB := CellsAt.cell HA3.out b16
  have cAB := CellsAt.cell (RegsIn.set HA3.out D true) a16
  have cBA := CellsAt.cell (RegsIn.set HA3.out A true) b16
  have fA := CellsAt.free HA3.out A
  have fB := CellsAt.free HA3.out D
  have HAB := Lib.hid (RegsIn.set (RegsIn.set HA3.out A true) D true)
  have HBA := Lib.hid (RegsIn.set (RegsIn.set HA3.out D true) A true)
  go_region
  all_goals go_upto_region 22 with fail
  ·obtain ⟨wx, hwx⟩ : ∃ wx, ((w3.setCell ⟨w.heap.size, A, none⟩ (.bool true)).setCell ⟨w.heap.size, D, none⟩ (.bool true)).drew = wx := ⟨_, rfl⟩
   obtain ⟨g, hg⟩ : ∃ g, aheadF ⟨5, A, D, n, m⟩ f = g := ⟨_, rfl⟩
   have HG := Lib.hid hg
   have HGA : Hid (RegsIn wx w.heap.size 207 g) := by
    rw [← hwx, ← hg]
    refine CellsAt.of (RegsIn.congr HAB.out (fun r _ => ?_)) rfl
    simp only [aheadF, B.Ins.reads, B.Ins.writes, B.Ins.isW, beq_nat]
    by_cases e : r = A <;> by_cases e2 : r = D <;> simp [e, e2]
   have HGO : Hid (RegsIn wx (w.heap.size + 1 + 1) 207 (fun _ => false)) := by rw [← hwx]; exact CellsAt.of (CellsAt.other (CellsAt.other HO3.out _ _ (by simp; omega)) _ _ (by simp; omega)) rfl
   have HGB : Hid (Below w.heap.size w wx) := by rw [← hwx]; exact ((HB3.out.setCell (Nat.le_refl _) _).setCell (Nat.le_refl _) _).drew
   rw [hwx]
   clear hwx hg hsz3 c1 c2 cA cB cAB cBA fA fB HA3 HO3 HX3 HB3 HAB HBA
   have HR := Lib.hid (RegsIn.range HGA.out)
   have HT : Hid ((wx).there (w.heap.size + 1 + 1) 0 16) := CellsAt.there HGO.out (by omega)
   have HS : Hid (RegsIn ((wx).setCells (w.heap.size + 1 + 1) 0 (regsF g).toList) (w.heap.size + 1 + 1) 207 g) := RegsIn.store HGO.out _
   have HB : Hid (Below w.heap.size w ((wx).setCells (w.heap.size + 1 + 1) 0 (regsF g).toList)) := HGB.out.grown (grownBy_setCells _ _ _ _) (by have := HGB.out.size; omega) (fun k hk => by simp at hk; omega)
   go_wp2_with (first
    | refine wpList_load_mid (by rfl) 207 _ (by rfl) w.heap.size 0 (by rfl) (regsF g).toList _ HR.out Tryz.underlying207 (by rfl) (by rw [info207]; rfl) ?_
    | refine wpList_store_mid (by rfl) 207 _ _ (by rfl) (w.heap.size + 1 + 1) 0 (regsF g) (by rfl) (by rfl) HT.out (by rw [info207]; rfl) (regsF_ones _) ?_)
   refine bodyPost_ret (v := .agg (regsF g)) ?_ rfl ?_
   rotate_left
   ·exact ⟨by rw [HG.out], HB.out⟩
   exact results_cell Tryz.results142 (by rfl) (run_loadVar_mid (P := Tryz.prog) _ (w.heap.size + 1 + 1) 0 207 (regsF g).toList _ HS.out.range Tryz.underlying207 rfl (by rw [info207]; rfl))
 case inr.inr.inr.inr.inr.inr.inl =>
  have hw : wrI ⟨6, A, D, n, m⟩ = A := rfl
  rw [hw]
  go_upto_region 22 with fail
  obtain ⟨wx, hwx⟩ : ∃ wx, (w2.setCell ⟨w.heap.size, A, none⟩ (.bool false)).setCell ⟨w.heap.size, A, none⟩ (.bool true) = wx := ⟨_, rfl⟩
  obtain ⟨g, hg⟩ : ∃ g, aheadF ⟨6, A, D, n, m⟩ f = g := ⟨_, rfl⟩
  have HG := Lib.hid hg
  have HGA : Hid (RegsIn wx w.heap.size 207 g) := by
   rw [← hwx, ← hg]
   refine RegsIn.congr (RegsIn.set (RegsIn.set HA.out A false) A true) (fun r _ => ?_)
   simp only [aheadF, B.Ins.reads, B.Ins.writes, B.Ins.isW, beq_nat]
   by_cases e : r = A <;> simp [e]
  have HGO : Hid (RegsIn wx (w.heap.size + 1 + 1) 207 (fun _ => false)) := by rw [← hwx]; exact CellsAt.other (CellsAt.other HO.out _ _ (by simp; omega)) _ _ (by simp; omega)
  have HGB : Hid (Below w.heap.size w wx) := by rw [← hwx]; exact (HB2.out.setCell (Nat.le_refl _) _).setCell (Nat.le_refl _) _
  rw [hwx]
  clear hwx hg hsz c0 c1 c2 cA fA fB HA HO HX HB2
  have HR := Lib.hid (RegsIn.range HGA.out)
  have HT : Hid ((wx).there (w.heap.size + 1 + 1) 0 16) := CellsAt.there HGO.out (by omega)
  have HS : Hid (RegsIn ((wx).setCells (w.heap.size + 1 + 1) 0 (regsF g).toList) (w.heap.size + 1 + 1) 207 g) := RegsIn.store HGO.out _
  have HB : Hid (Below w.heap.size w ((wx).setCells (w.heap.size + 1 + 1) 0 (regsF g).toList)) := HGB.out.grown (grownBy_setCells _ _ _ _) (by have := HGB.out.size; omega) (fun k hk => by simp at hk; omega)
  go_wp2_with (first
   | refine wpList_load_mid (by rfl) 207 _ (by rfl) w.heap.size 0 (by rfl) (regsF g).toList _ HR.out Tryz.underlying207 (by rfl) (by rw [info207]; rfl) ?_
   | refine wpList_store_mid (by rfl) 207 _ _ (by rfl) (w.heap.size + 1 + 1) 0 (regsF g) (by rfl) (by rfl) HT.out (by rw [info207]; rfl) (regsF_ones _) ?_)
  refine bodyPost_ret (v := .agg (regsF g)) ?_ rfl ?_
  rotate_left
  ·exact ⟨by rw [HG.out], HB.out⟩
  exact results_cell Tryz.results142 (by rfl) (run_loadVar_mid (P := Tryz.prog) _ (w.heap.size + 1 + 1) 0 207 (regsF g).toList _ HS.out.range Tryz.underlying207 rfl (by rw [info207]; rfl))
 case inr.inr.inr.inr.inr.inr.inr.inl =>
  have hw : wrI ⟨7, A, D, n, m⟩ = A := rfl
  rw [hw]
  go_upto_region 22 with fail
  obtain ⟨wx, hwx⟩ : ∃ wx, (w2.setCell ⟨w.heap.size, A, none⟩ (.bool false)).setCell ⟨w.heap.size, A, none⟩ (.bool true) = wx := ⟨_, rfl⟩
  obtain ⟨g, hg⟩ : ∃ g, aheadF ⟨7, A, D, n, m⟩ f = g := ⟨_, rfl⟩
  have HG := Lib.hid hg
  have HGA : Hid (RegsIn wx w.heap.size 207 g) := by
   rw [← hwx, ← hg]
   refine RegsIn.congr (RegsIn.set (RegsIn.set HA.out A false) A true) (fun r _ => ?_)
   simp only [aheadF, B.Ins.reads, B.Ins.writes, B.Ins.isW, beq_nat]
   by_cases e : r = A <;> simp [e]
  have HGO : Hid (RegsIn wx (w.heap.size + 1 + 1) 207 (fun _ => false)) := by rw [← hwx]; exact CellsAt.other (CellsAt.other HO.out _ _ (by simp; omega)) _ _ (by simp; omega)
  have HGB : Hid (Below w.heap.size w wx) := by rw [← hwx]; exact (HB2.out.setCell (Nat.le_refl _) _).setCell (Nat.le_refl _) _
  rw [hwx]
  clear hwx hg hsz c0 c1 c2 cA fA fB HA HO HX HB2
  have HR := Lib.hid (RegsIn.range HGA.out)
  have HT : Hid ((wx).there (w.heap.size + 1 + 1) 0 16) := CellsAt.there HGO.out (by omega)
  have HS : Hid (RegsIn ((wx).setCells (w.heap.size + 1 + 1) 0 (regsF g).toList) (w.heap.size + 1 + 1) 207 g) := RegsIn.store HGO.out _
  have HB : Hid (Below w.heap.size w ((wx).setCells (w.heap.size + 1 + 1) 0 (regsF g).toList)) := HGB.out.grown (grownBy_setCells _ _ _ _) (by have := HGB.out.size; omega) (fun k hk => by simp at hk; omega)
  go_wp2_with (first
   | refine wpList_load_mid (by rfl) 207 _ (by rfl) w.heap.size 0 (by rfl) (regsF g).toList _ HR.out Tryz.underlying207 (by rfl) (by rw [info207]; rfl) ?_
   | refine wpList_store_mid (by rfl) 207 _ _ (by rfl) (w.heap.size + 1 + 1) 0 (regsF g) (by rfl) (by rfl) HT.out (by rw [info207]; rfl) (regsF_ones _) ?_)
  refine bodyPost_ret (v := .agg (regsF g)) ?_ rfl ?_
  rotate_left
  ·exact ⟨by rw [HG.out], HB.out⟩
  exact results_cell Tryz.results142 (by rfl) (run_loadVar_mid (P := Tryz.prog) _ (w.heap.size + 1 + 1) 0 207 (regsF g).toList _ HS.out.range Tryz.underlying207 rfl (by rw [info207]; rfl))
 case inr.inr.inr.inr.inr.inr.inr.inr.inl =>
  have hw : wrI ⟨8, A, D, n, m⟩ = A := rfl
  rw [hw]
  go_upto_region 22 with fail
  obtain ⟨wx, hwx⟩ : ∃ wx, (w2.setCell ⟨w.heap.size, A, none⟩ (.bool false)).setCell ⟨w.heap.size, A, none⟩ (.bool true) = wx := ⟨_, rfl⟩
  obtain ⟨g, hg⟩ : ∃ g, aheadF ⟨8, A, D, n, m⟩ f = g := ⟨_, rfl⟩
  have HG := Lib.hid hg
  have HGA : Hid (RegsIn wx w.heap.size 207 g) := by
   rw [← hwx, ← hg]
   refine RegsIn.congr (RegsIn.set (RegsIn.set HA.out A false) A true) (fun r _ => ?_)
   simp only [aheadF, B.Ins.reads, B.Ins.writes, B.Ins.isW, beq_nat]
   by_cases e : r = A <;> simp [e]
  have HGO : Hid (RegsIn wx (w.heap.size + 1 + 1) 207 (fun _ => false)) := by rw [← hwx]; exact CellsAt.other (CellsAt.other HO.out _ _ (by simp; omega)) _ _ (by simp; omega)
  have HGB : Hid (Below w.heap.size w wx) := by rw [← hwx]; exact (HB2.out.setCell (Nat.le_refl _) _).setCell (Nat.le_refl _) _
  rw [hwx]
  clear hwx hg hsz c0 c1 c2 cA fA fB HA HO HX HB2
  have HR := Lib.hid (RegsIn.range HGA.out)
  have HT : Hid ((wx).there (w.heap.size + 1 + 1) 0 16) := CellsAt.there HGO.out (by omega)
  have HS : Hid (RegsIn ((wx).setCells (w.heap.size + 1 + 1) 0 (regsF g).toList) (w.heap.size + 1 + 1) 207 g) := RegsIn.store HGO.out _
  have HB : Hid (Below w.heap.size w ((wx).setCells (w.heap.size + 1 + 1) 0 (regsF g).toList)) := HGB.out.grown (grownBy_setCells _ _ _ _) (by have := HGB.out.size; omega) (fun k hk => by simp at hk; omega)
  go_wp2_with (first
   | refine wpList_load_mid (by rfl) 207 _ (by rfl) w.heap.size 0 (by rfl) (regsF g).toList _ HR.out Tryz.underlying207 (by rfl) (by rw [info207]; rfl) ?_
   | refine wpList_store_mid (by rfl) 207 _ _ (by rfl) (w.heap.size + 1 + 1) 0 (regsF g) (by rfl) (by rfl) HT.out (by rw [info207]; rfl) (regsF_ones _) ?_)
  refine bodyPost_ret (v := .agg (regsF g)) ?_ rfl ?_
  rotate_left
  ·exact ⟨by rw [HG.out], HB.out⟩
  exact results_cell Tryz.results142 (by rfl) (run_loadVar_mid (P := Tryz.prog) _ (w.heap.size + 1 + 1) 0 207 (regsF g).toList _ HS.out.range Tryz.underlying207 rfl (by rw [info207]; rfl))
 case inr.inr.inr.inr.inr.inr.inr.inr.inr.inl =>
  have hw : wrI ⟨9, A, D, n, m⟩ = A := rfl
  rw [hw]
  go_upto_region 22 with fail
  obtain ⟨wx, hwx⟩ : ∃ wx, w2.setCell ⟨w.heap.size, A, none⟩ (.bool false) = wx := ⟨_, rfl⟩
  obtain ⟨g, hg⟩ : ∃ g, aheadF ⟨9, A, D, n, m⟩ f = g := ⟨_, rfl⟩
  have HG := Lib.hid hg
  have HGA : Hid (RegsIn wx w.heap.size 207 g) := by
   rw [← hwx, ← hg]
   refine RegsIn.congr (RegsIn.set HA.out A false) (fun r _ => ?_)
   simp only [aheadF, B.Ins.reads, B.Ins.writes, B.Ins.isW, beq_nat]
   by_cases e : r = A <;> simp [e]
  have HGO : Hid (RegsIn wx (w.heap.size + 1 + 1) 207 (fun _ => false)) := by rw [← hwx]; exact CellsAt.other HO.out _ _ (by simp; omega)
  have HGB : Hid (Below w.heap.size w wx) := by rw [← hwx]; exact HB2.out.setCell (Nat.le_refl _) _
  rw [hwx]
  clear hwx hg hsz c0 c1 c2 cA fA fB HA HO HX HB2
  have HR := Lib.hid (RegsIn.range HGA.out)
  have HT : Hid ((wx).there (w.heap.size + 1 + 1) 0 16) := CellsAt.there HGO.out (by omega)
  have HS : Hid (RegsIn ((wx).setCells (w.heap.size + 1 + 1) 0 (regsF g).toList) (w.heap.size + 1 + 1) 207 g) := RegsIn.store HGO.out _
  have HB : Hid (Below w.heap.size w ((wx).setCells (w.heap.size + 1 + 1) 0 (regsF g).toList)) := HGB.out.grown (grownBy_setCells _ _ _ _) (by have := HGB.out.size; omega) (fun k hk => by simp at hk; omega)
  go_wp2_with (first
   | refine wpList_load_mid (by rfl) 207 _ (by rfl) w.heap.size 0 (by rfl) (regsF g).toList _ HR.out Tryz.underlying207 (by rfl) (by rw [info207]; rfl) ?_
   | refine wpList_store_mid (by rfl) 207 _ _ (by rfl) (w.heap.size + 1 + 1) 0 (regsF g) (by rfl) (by rfl) HT.out (by rw [info207]; rfl) (regsF_ones _) ?_)
  refine bodyPost_ret (v := .agg (regsF g)) ?_ rfl ?_
  rotate_left
  ·exact ⟨by rw [HG.out], HB.out⟩
  exact results_cell Tryz.results142 (by rfl) (run_loadVar_mid (P := Tryz.prog) _ (w.heap.size + 1 + 1) 0 207 (regsF g).toList _ HS.out.range Tryz.underlying207 rfl (by rw [info207]; rfl))
 case inr.inr.inr.inr.inr.inr.inr.inr.inr.inr.inl =>
  have hw : wrI ⟨10, A, D, n, m⟩ = A := rfl
  rw [hw]
  go_upto_region 22 with fail
  obtain ⟨wx, hwx⟩ : ∃ wx, w2.setCell ⟨w.heap.size, A, none⟩ (.bool false) = wx := ⟨_, rfl⟩
  obtain ⟨g, hg⟩ : ∃ g, aheadF ⟨10, A, D, n, m⟩ f = g := ⟨_, rfl⟩
  have HG := Lib.hid hg
  have HGA : Hid (RegsIn wx w.heap.size 207 g) := by
   rw [← hwx, ← hg]
   refine RegsIn.congr (RegsIn.set HA.out A false) (fun r _ => ?_)
   simp only [aheadF, B.Ins.reads, B.Ins.writes, B.Ins.isW, beq_nat]
   by_cases e : r = A <;> simp [e]
  have HGO : Hid (RegsIn wx (w.heap.size + 1 + 1) 207 (fun _ => false)) := by rw [← hwx]; exact CellsAt.other HO.out _ _ (by simp; omega)
  have HGB : Hid (Below w.heap.size w wx) := by rw [← hwx]; exact HB2.out.setCell (Nat.le_refl _) _
  rw [hwx]
  clear hwx hg hsz c0 c1 c2 cA fA fB HA HO HX HB2
  have HR := Lib.hid (RegsIn.range HGA.out)
  have HT : Hid ((wx).there (w.heap.size + 1 + 1) 0 16) := CellsAt.there HGO.out (by omega)
  have HS : Hid (RegsIn ((wx).setCells (w.heap.size + 1 + 1) 0 (regsF g).toList) (w.heap.size + 1 + 1) 207 g) := RegsIn.store HGO.out _
  have HB : Hid (Below w.heap.size w ((wx).setCells (w.heap.size + 1 + 1) 0 (regsF g).toList)) := HGB.out.grown (grownBy_setCells _ _ _ _) (by have := HGB.out.size; omega) (fun k hk => by simp at hk; omega)
  go_wp2_with (first
   | refine wpList_load_mid (by rfl) 207 _ (by rfl) w.heap.size 0 (by rfl) (regsF g).toList _ HR.out Tryz.underlying207 (by rfl) (by rw [info207]; rfl) ?_
   | refine wpList_store_mid (by rfl) 207 _ _ (by rfl) (w.heap.size + 1 + 1) 0 (regsF g) (by rfl) (by rfl) HT.out (by rw [info207]; rfl) (regsF_ones _) ?_)
  refine bodyPost_ret (v := .agg (regsF g)) ?_ rfl ?_
  rotate_left
  ·exact ⟨by rw [HG.out], HB.out⟩
  exact results_cell Tryz.results142 (by rfl) (run_loadVar_mid (P := Tryz.prog) _ (w.heap.size + 1 + 1) 0 207 (regsF g).toList _ HS.out.range Tryz.underlying207 rfl (by rw [info207]; rfl))
 case inr.inr.inr.inr.inr.inr.inr.inr.inr.inr.inr.inl =>
  have hw : wrI ⟨11, A, D, n, m⟩ = -1 := rfl
  rw [hw]
  go_upto_region 22 with fail
  obtain ⟨wx, hwx⟩ : ∃ wx, (w2).setCell ⟨w.heap.size, A, none⟩ (.bool true) = wx := ⟨_, rfl⟩
  obtain ⟨g, hg⟩ : ∃ g, aheadF ⟨11, A, D, n, m⟩ f = g := ⟨_, rfl⟩
  have HG := Lib.hid hg
  have HGA : Hid (RegsIn wx w.heap.size 207 g) := by
   rw [← hwx, ← hg]
   refine RegsIn.congr (RegsIn.set HA.out A true) (fun r _ => ?_)
   simp only [aheadF, B.Ins.reads, B.Ins.writes, B.Ins.isW, beq_nat]
   by_cases e : r = A <;> simp [e]
  have HGO : Hid (RegsIn wx (w.heap.size + 1 + 1) 207 (fun _ => false)) := by rw [← hwx]; exact CellsAt.other HO.out _ _ (by simp; omega)
  have HGB : Hid (Below w.heap.size w wx) := by rw [← hwx]; exact HB2.out.setCell (Nat.le_refl _) _
  rw [hwx]
  clear hwx hg hsz c0 c1 c2 cA fA fB HA HO HX HB2
  have HR := Lib.hid (RegsIn.range HGA.out)
  have HT : Hid ((wx).there (w.heap.size + 1 + 1) 0 16) := CellsAt.there HGO.out (by omega)
  have HS : Hid (RegsIn ((wx).setCells (w.heap.size + 1 + 1) 0 (regsF g).toList) (w.heap.size + 1 + 1) 207 g) := RegsIn.store HGO.out _
  have HB : Hid (Below w.heap.size w ((wx).setCells (w.heap.size + 1 + 1) 0 (regsF g).toList)) := HGB.out.grown (grownBy_setCells _ _ _ _) (by have := HGB.out.size; omega) (fun k hk => by simp at hk; omega)
  go_wp2_with (first
   | refine wpList_load_mid (by rfl) 207 _ (by rfl) w.heap.size 0 (by rfl) (regsF g).toList _ HR.out Tryz.underlying207 (by rfl) (by rw [info207]; rfl) ?_
   | refine wpList_store_mid (by rfl) 207 _ _ (by rfl) (w.heap.size + 1 + 1) 0 (regsF g) (by rfl) (by rfl) HT.out (by rw [info207]; rfl) (regsF_ones _) ?_)
  refine bodyPost_ret (v := .agg (regsF g)) ?_ rfl ?_
  rotate_left
  ·exact ⟨by rw [HG.out], HB.out⟩
  exact results_cell Tryz.results142 (by rfl) (run_loadVar_mid (P := Tryz.prog) _ (w.heap.size + 1 + 1) 0 207 (regsF g).toList _ HS.out.range Tryz.underlying207 rfl (by rw [info207]; rfl))
 case inr.inr.inr.inr.inr.inr.inr.inr.inr.inr.inr.inr.inl =>
  have hw : wrI ⟨12, A, D, n, m⟩ = -1 := rfl
  rw [hw]
  go_upto_region 22 with fail
  obtain ⟨wx, hwx⟩ : ∃ wx, (w2).setCell ⟨w.heap.size, A, none⟩ (.bool true) = wx := ⟨_, rfl⟩
  obtain ⟨g, hg⟩ : ∃ g, aheadF ⟨12, A, D, n, m⟩ f = g := ⟨_, rfl⟩
  have HG := Lib.hid hg
  have HGA : Hid (RegsIn wx w.heap.size 207 g) := by
   rw [← hwx, ← hg]
   refine RegsIn.congr (RegsIn.set HA.out A true) (fun r _ => ?_)
   simp only [aheadF, B.Ins.reads, B.Ins.writes, B.Ins.isW, beq_nat]
   by_cases e : r = A <;> simp [e]
  have HGO : Hid (RegsIn wx (w.heap.size + 1 + 1) 207 (fun _ => false)) := by rw [← hwx]; exact CellsAt.other HO.out _ _ (by simp; omega)
  have HGB : Hid (Below w.heap.size w wx) := by rw [← hwx]; exact HB2.out.setCell (Nat.le_refl _) _
  rw [hwx]
  clear hwx hg hsz c0 c1 c2 cA fA fB HA HO HX HB2
  have HR := Lib.hid (RegsIn.range HGA.out)
  have HT : Hid ((wx).there (w.heap.size + 1 + 1) 0 16) := CellsAt.there HGO.out (by omega)
  have HS : Hid (RegsIn ((wx).setCells (w.heap.size + 1 + 1) 0 (regsF g).toList) (w.heap.size + 1 + 1) 207 g) := RegsIn.store HGO.out _
  have HB : Hid (Below w.heap.size w ((wx).setCells (w.heap.size + 1 + 1) 0 (regsF g).toList)) := HGB.out.grown (grownBy_setCells _ _ _ _) (by have := HGB.out.size; omega) (fun k hk => by simp at hk; omega)
  go_wp2_with (first
   | refine wpList_load_mid (by rfl) 207 _ (by rfl) w.heap.size 0 (by rfl) (regsF g).toList _ HR.out Tryz.underlying207 (by rfl) (by rw [info207]; rfl) ?_
   | refine wpList_store_mid (by rfl) 207 _ _ (by rfl) (w.heap.size + 1 + 1) 0 (regsF g) (by rfl) (by rfl) HT.out (by rw [info207]; rfl) (regsF_ones _) ?_)
  refine bodyPost_ret (v := .agg (regsF g)) ?_ rfl ?_
  rotate_left
  ·exact ⟨by rw [HG.out], HB.out⟩
  exact results_cell Tryz.results142 (by rfl) (run_loadVar_mid (P := Tryz.prog) _ (w.heap.size + 1 + 1) 0 207 (regsF g).toList _ HS.out.range Tryz.underlying207 rfl (by rw [info207]; rfl))
 case inr.inr.inr.inr.inr.inr.inr.inr.inr.inr.inr.inr.inr.inl =>
  have hw : wrI ⟨13, A, D, n, m⟩ = -1 := rfl
  rw [hw]
  go_upto_region 22 with fail
  obtain ⟨wx, hwx⟩ : ∃ wx, (w2).setCell ⟨w.heap.size, A, none⟩ (.bool true) = wx := ⟨_, rfl⟩
  obtain ⟨g, hg⟩ : ∃ g, aheadF ⟨13, A, D, n, m⟩ f = g := ⟨_, rfl⟩
  have HG := Lib.hid hg
  have HGA : Hid (RegsIn wx w.heap.size 207 g) := by
   rw [← hwx, ← hg]
   refine RegsIn.congr (RegsIn.set HA.out A true) (fun r _ => ?_)
   simp only [aheadF, B.Ins.reads, B.Ins.writes, B.Ins.isW, beq_nat]
   by_cases e : r = A <;> simp [e]
  have HGO : Hid (RegsIn wx (w.heap.size + 1 + 1) 207 (fun _ => false)) := by rw [← hwx]; exact CellsAt.other HO.out _ _ (by simp; omega)
  have HGB : Hid (Below w.heap.size w wx) := by rw [← hwx]; exact HB2.out.setCell (Nat.le_refl _) _
  rw [hwx]
  clear hwx hg hsz c0 c1 c2 cA fA fB HA HO HX HB2
  have HR := Lib.hid (RegsIn.range HGA.out)
  have HT : Hid ((wx).there (w.heap.size + 1 + 1) 0 16) := CellsAt.there HGO.out (by omega)
  have HS : Hid (RegsIn ((wx).setCells (w.heap.size + 1 + 1) 0 (regsF g).toList) (w.heap.size + 1 + 1) 207 g) := RegsIn.store HGO.out _
  have HB : Hid (Below w.heap.size w ((wx).setCells (w.heap.size + 1 + 1) 0 (regsF g).toList)) := HGB.out.grown (grownBy_setCells _ _ _ _) (by have := HGB.out.size; omega) (fun k hk => by simp at hk; omega)
  go_wp2_with (first
   | refine wpList_load_mid (by rfl) 207 _ (by rfl) w.heap.size 0 (by rfl) (regsF g).toList _ HR.out Tryz.underlying207 (by rfl) (by rw [info207]; rfl) ?_
   | refine wpList_store_mid (by rfl) 207 _ _ (by rfl) (w.heap.size + 1 + 1) 0 (regsF g) (by rfl) (by rfl) HT.out (by rw [info207]; rfl) (regsF_ones _) ?_)
  refine bodyPost_ret (v := .agg (regsF g)) ?_ rfl ?_
  rotate_left
  ·exact ⟨by rw [HG.out], HB.out⟩
  exact results_cell Tryz.results142 (by rfl) (run_loadVar_mid (P := Tryz.prog) _ (w.heap.size + 1 + 1) 0 207 (regsF g).toList _ HS.out.range Tryz.underlying207 rfl (by rw [info207]; rfl))
 case inr.inr.inr.inr.inr.inr.inr.inr.inr.inr.inr.inr.inr.inr.inl =>
  have hw : wrI ⟨14, A, D, n, m⟩ = A := rfl
  rw [hw]
  go_upto_region 22 with fail
  obtain ⟨wx, hwx⟩ : ∃ wx, (w2.setCell ⟨w.heap.size, A, none⟩ (.bool false)).setCell ⟨w.heap.size, A, none⟩ (.bool true) = wx := ⟨_, rfl⟩
  obtain ⟨g, hg⟩ : ∃ g, aheadF ⟨14, A, D, n, m⟩ f = g := ⟨_, rfl⟩
  have HG := Lib.hid hg
  have HGA : Hid (RegsIn wx w.heap.size 207 g) := by
   rw [← hwx, ← hg]
   refine RegsIn.congr (RegsIn.set (RegsIn.set HA.out A false) A true) (fun r _ => ?_)
   simp only [aheadF, B.Ins.reads, B.Ins.writes, B.Ins.isW, beq_nat]
   by_cases e : r = A <;> simp [e]
  have HGO : Hid (RegsIn wx (w.heap.size + 1 + 1) 207 (fun _ => false)) := by rw [← hwx]; exact CellsAt.other (CellsAt.other HO.out _ _ (by simp; omega)) _ _ (by simp; omega)
  have HGB : Hid (Below w.heap.size w wx) := by rw [← hwx]; exact (HB2.out.setCell (Nat.le_refl _) _).setCell (Nat.le_refl _) _
  rw [hwx]
  clear hwx hg hsz c0 c1 c2 cA fA fB HA HO HX HB2
  have HR := Lib.hid (RegsIn.range HGA.out)
  have HT : Hid ((wx).there (w.heap.size + 1 + 1) 0 16) := CellsAt.there HGO.out (by omega)
  have HS : Hid (RegsIn ((wx).setCells (w.heap.size + 1 + 1) 0 (regsF g).toList) (w.heap.size + 1 + 1) 207 g) := RegsIn.store HGO.out _
  have HB : Hid (Below w.heap.size w ((wx).setCells (w.heap.size + 1 + 1) 0 (regsF g).toList)) := HGB.out.grown (grownBy_setCells _ _ _ _) (by have := HGB.out.size; omega) (fun k hk => by simp at hk; omega)
  go_wp2_with (first
   | refine wpList_load_mid (by rfl) 207 _ (by rfl) w.heap.size 0 (by rfl) (regsF g).toList _ HR.out Tryz.underlying207 (by rfl) (by rw [info207]; rfl) ?_
   | refine wpList_store_mid (by rfl) 207 _ _ (by rfl) (w.heap.size + 1 + 1) 0 (regsF g) (by rfl) (by rfl) HT.out (by rw [info207]; rfl) (regsF_ones _) ?_)
  refine bodyPost_ret (v := .agg (regsF g)) ?_ rfl ?_
  rotate_left
  ·exact ⟨by rw [HG.out], HB.out⟩
  exact results_cell Tryz.results142 (by rfl) (run_loadVar_mid (P := Tryz.prog) _ (w.heap.size + 1 + 1) 0 207 (regsF g).toList _ HS.out.range Tryz.underlying207 rfl (by rw [info207]; rfl))
 case inr.inr.inr.inr.inr.inr.inr.inr.inr.inr.inr.inr.inr.inr.inr.inl =>
  have hw : wrI ⟨15, A, D, n, m⟩ = A := rfl
  rw [hw]
  go_upto_region 22 with fail
  obtain ⟨wx, hwx⟩ : ∃ wx, w2.setCell ⟨w.heap.size, A, none⟩ (.bool false) = wx := ⟨_, rfl⟩
  obtain ⟨g, hg⟩ : ∃ g, aheadF ⟨15, A, D, n, m⟩ f = g := ⟨_, rfl⟩
  have HG := Lib.hid hg
  have HGA : Hid (RegsIn wx w.heap.size 207 g) := by
   rw [← hwx, ← hg]
   refine RegsIn.congr (RegsIn.set HA.out A false) (fun r _ => ?_)
   simp only [aheadF, B.Ins.reads, B.Ins.writes, B.Ins.isW, beq_nat]
   by_cases e : r = A <;> simp [e]
  have HGO : Hid (RegsIn wx (w.heap.size + 1 + 1) 207 (fun _ => false)) := by rw [← hwx]; exact CellsAt.other HO.out _ _ (by simp; omega)
  have HGB : Hid (Below w.heap.size w wx) := by rw [← hwx]; exact HB2.out.setCell (Nat.le_refl _) _
  rw [hwx]
  clear hwx hg hsz c0 c1 c2 cA fA fB HA HO HX HB2
  have HR := Lib.hid (RegsIn.range HGA.out)
  have HT : Hid ((wx).there (w.heap.size + 1 + 1) 0 16) := CellsAt.there HGO.out (by omega)
  have HS : Hid (RegsIn ((wx).setCells (w.heap.size + 1 + 1) 0 (regsF g).toList) (w.heap.size + 1 + 1) 207 g) := RegsIn.store HGO.out _
  have HB : Hid (Below w.heap.size w ((wx).setCells (w.heap.size + 1 + 1) 0 (regsF g).toList)) := HGB.out.grown (grownBy_setCells _ _ _ _) (by have := HGB.out.size; omega) (fun k hk => by simp at hk; omega)
  go_wp2_with (first
   | refine wpList_load_mid (by rfl) 207 _ (by rfl) w.heap.size 0 (by rfl) (regsF g).toList _ HR.out Tryz.underlying207 (by rfl) (by rw [info207]; rfl) ?_
   | refine wpList_store_mid (by rfl) 207 _ _ (by rfl) (w.heap.size + 1 + 1) 0 (regsF g) (by rfl) (by rfl) HT.out (by rw [info207]; rfl) (regsF_ones _) ?_)
  refine bodyPost_ret (v := .agg (regsF g)) ?_ rfl ?_
  rotate_left
  ·exact ⟨by rw [HG.out], HB.out⟩
  exact results_cell Tryz.results142 (by rfl) (run_loadVar_mid (P := Tryz.prog) _ (w.heap.size + 1 + 1) 0 207 (regsF g).toList _ HS.out.range Tryz.underlying207 rfl (by rw [info207]; rfl))
 case inr.inr.inr.inr.inr.inr.inr.inr.inr.inr.inr.inr.inr.inr.inr.inr.inl =>
  have hw : wrI ⟨16, A, D, n, m⟩ = -1 := rfl
  rw [hw]
  go_upto_region 22 with fail
  obtain ⟨wx, hwx⟩ : ∃ wx, (w2).setCell ⟨w.heap.size, A, none⟩ (.bool true) = wx := ⟨_, rfl⟩
  obtain ⟨g, hg⟩ : ∃ g, aheadF ⟨16, A, D, n, m⟩ f = g := ⟨_, rfl⟩
  have HG := Lib.hid hg
  have HGA : Hid (RegsIn wx w.heap.size 207 g) := by
   rw [← hwx, ← hg]
   refine RegsIn.congr (RegsIn.set HA.out A true) (fun r _ => ?_)
   simp only [aheadF, B.Ins.reads, B.Ins.writes, B.Ins.isW, beq_nat]
   by_cases e : r = A <;> simp [e]
  have HGO : Hid (RegsIn wx (w.heap.size + 1 + 1) 207 (fun _ => false)) := by rw [← hwx]; exact CellsAt.other HO.out _ _ (by simp; omega)
  have HGB : Hid (Below w.heap.size w wx) := by rw [← hwx]; exact HB2.out.setCell (Nat.le_refl _) _
  rw [hwx]
  clear hwx hg hsz c0 c1 c2 cA fA fB HA HO HX HB2
  have HR := Lib.hid (RegsIn.range HGA.out)
  have HT : Hid ((wx).there (w.heap.size + 1 + 1) 0 16) := CellsAt.there HGO.out (by omega)
  have HS : Hid (RegsIn ((wx).setCells (w.heap.size + 1 + 1) 0 (regsF g).toList) (w.heap.size + 1 + 1) 207 g) := RegsIn.store HGO.out _
  have HB : Hid (Below w.heap.size w ((wx).setCells (w.heap.size + 1 + 1) 0 (regsF g).toList)) := HGB.out.grown (grownBy_setCells _ _ _ _) (by have := HGB.out.size; omega) (fun k hk => by simp at hk; omega)
  go_wp2_with (first
   | refine wpList_load_mid (by rfl) 207 _ (by rfl) w.heap.size 0 (by rfl) (regsF g).toList _ HR.out Tryz.underlying207 (by rfl) (by rw [info207]; rfl) ?_
   | refine wpList_store_mid (by rfl) 207 _ _ (by rfl) (w.heap.size + 1 + 1) 0 (regsF g) (by rfl) (by rfl) HT.out (by rw [info207]; rfl) (regsF_ones _) ?_)
  refine bodyPost_ret (v := .agg (regsF g)) ?_ rfl ?_
  rotate_left
  ·exact ⟨by rw [HG.out], HB.out⟩
  exact results_cell Tryz.results142 (by rfl) (run_loadVar_mid (P := Tryz.prog) _ (w.heap.size + 1 + 1) 0 207 (regsF g).toList _ HS.out.range Tryz.underlying207 rfl (by rw [info207]; rfl))
 case inr.inr.inr.inr.inr.inr.inr.inr.inr.inr.inr.inr.inr.inr.inr.inr.inr.inl =>
  have hw : wrI ⟨17, A, D, n, m⟩ = -1 := rfl
  rw [hw]
  go_upto_region 22 with fail
  obtain ⟨wx, hwx⟩ : ∃ wx, (w2).setCell ⟨w.heap.size, A, none⟩ (.bool true) = wx := ⟨_, rfl⟩
  obtain ⟨g, hg⟩ : ∃ g, aheadF ⟨17, A, D, n, m⟩ f = g := ⟨_, rfl⟩
  have HG := Lib.hid hg
  have HGA : Hid (RegsIn wx w.heap.size 207 g) := by
   rw [← hwx, ← hg]
   refine RegsIn.congr (RegsIn.set HA.out A true) (fun r _ => ?_)
   simp only [aheadF, B.Ins.reads, B.Ins.writes, B.Ins.isW, beq_nat]
   by_cases e : r = A <;> simp [e]
  have HGO : Hid (RegsIn wx (w.heap.size + 1 + 1) 207 (fun _ => false)) := by rw [← hwx]; exact CellsAt.other HO.out _ _ (by simp; omega)
  have HGB : Hid (Below w.heap.size w wx) := by rw [← hwx]; exact HB2.out.setCell (Nat.le_refl _) _
  rw [hwx]
  clear hwx hg hsz c0 c1 c2 cA fA fB HA HO HX HB2
  have HR := Lib.hid (RegsIn.range HGA.out)
  have HT : Hid ((wx).there (w.heap.size + 1 + 1) 0 16) := CellsAt.there HGO.out (by omega)
  have HS : Hid (RegsIn ((wx).setCells (w.heap.size + 1 + 1) 0 (regsF g).toList) (w.heap.size + 1 + 1) 207 g) := RegsIn.store HGO.out _
  have HB : Hid (Below w.heap.size w ((wx).setCells (w.heap.size + 1 + 1) 0 (regsF g).toList)) := HGB.out.grown (grownBy_setCells _ _ _ _) (by have := HGB.out.size; omega) (fun k hk => by simp at hk; omega)
  go_wp2_with (first
   | refine wpList_load_mid (by rfl) 207 _ (by rfl) w.heap.size 0 (by rfl) (regsF g).toList _ HR.out Tryz.underlying207 (by rfl) (by rw [info207]; rfl) ?_
   | refine wpList_store_mid (by rfl) 207 _ _ (by rfl) (w.heap.size + 1 + 1) 0 (regsF g) (by rfl) (by rfl) HT.out (by rw [info207]; rfl) (regsF_ones _) ?_)
  refine bodyPost_ret (v := .agg (regsF g)) ?_ rfl ?_
  rotate_left
  ·exact ⟨by rw [HG.out], HB.out⟩
  exact results_cell Tryz.results142 (by rfl) (run_loadVar_mid (P := Tryz.prog) _ (w.heap.size + 1 + 1) 0 207 (regsF g).toList _ HS.out.range Tryz.underlying207 rfl (by rw [info207]; rfl))
 case inr.inr.inr.inr.inr.inr.inr.inr.inr.inr.inr.inr.inr.inr.inr.inr.inr.inr.inl =>
  have hw : wrI ⟨18, A, D, n, m⟩ = -1 := rfl
  rw [hw]
  go_upto_region 22 with fail
  obtain ⟨wx, hwx⟩ : ∃ wx, w2 = wx := ⟨_, rfl⟩
  obtain ⟨g, hg⟩ : ∃ g, aheadF ⟨18, A, D, n, m⟩ f = g := ⟨_, rfl⟩
  have HG := Lib.hid hg
  have HGA : Hid (RegsIn wx w.heap.size 207 g) := by
   rw [← hwx, ← hg]
   refine RegsIn.congr HA.out (fun r _ => ?_)
   simp only [aheadF, B.Ins.reads, B.Ins.writes, B.Ins.isW, beq_nat]
   simp
  have HGO : Hid (RegsIn wx (w.heap.size + 1 + 1) 207 (fun _ => false)) := by rw [← hwx]; exact HO.out
  have HGB : Hid (Below w.heap.size w wx) := by rw [← hwx]; exact HB2.out
  rw [hwx]
  clear hwx hg hsz c0 c1 c2 cA fA fB HA HO HX HB2
  have HR := Lib.hid (RegsIn.range HGA.out)
  have HT : Hid ((wx).there (w.heap.size + 1 + 1) 0 16) := CellsAt.there HGO.out (by omega)
  have HS : Hid (RegsIn ((wx).setCells (w.heap.size + 1 + 1) 0 (regsF g).toList) (w.heap.size + 1 + 1) 207 g) := RegsIn.store HGO.out _
  have HB : Hid (Below w.heap.size w ((wx).setCells (w.heap.size + 1 + 1) 0 (regsF g).toList)) := HGB.out.grown (grownBy_setCells _ _ _ _) (by have := HGB.out.size; omega) (fun k hk => by simp at hk; omega)
  go_wp2_with (first
   | refine wpList_load_mid (by rfl) 207 _ (by rfl) w.heap.size 0 (by rfl) (regsF g).toList _ HR.out Tryz.underlying207 (by rfl) (by rw [info207]; rfl) ?_
   | refine wpList_store_mid (by rfl) 207 _ _ (by rfl) (w.heap.size + 1 + 1) 0 (regsF g) (by rfl) (by rfl) HT.out (by rw [info207]; rfl) (regsF_ones _) ?_)
  refine bodyPost_ret (v := .agg (regsF g)) ?_ rfl ?_
  rotate_left
  ·exact ⟨by rw [HG.out], HB.out⟩
  exact results_cell Tryz.results142 (by rfl) (run_loadVar_mid (P := Tryz.prog) _ (w.heap.size + 1 + 1) 0 207 (regsF g).toList _ HS.out.range Tryz.underlying207 rfl (by rw [info207]; rfl))
 case inr.inr.inr.inr.inr.inr.inr.inr.inr.inr.inr.inr.inr.inr.inr.inr.inr.inr.inr =>
  have hw : wrI ⟨19, A, D, n, m⟩ = -1 := rfl
  rw [hw]
  go_upto_region 22 with fail
  obtain ⟨wx, hwx⟩ : ∃ wx, (w2).setCell ⟨w.heap.size, A, none⟩ (.bool true) = wx := ⟨_, rfl⟩
  obtain ⟨g, hg⟩ : ∃ g, aheadF ⟨19, A, D, n, m⟩ f = g := ⟨_, rfl⟩
  have HG := Lib.hid hg
  have HGA : Hid (RegsIn wx w.heap.size 207 g) := by
   rw [← hwx, ← hg]
   refine RegsIn.congr (RegsIn.set HA.out A true) (fun r _ => ?_)
   simp only [aheadF, B.Ins.reads, B.Ins.writes, B.Ins.isW, beq_nat]
   by_cases e : r = A <;> simp [e]
  have HGO : Hid (RegsIn wx (w.heap.size + 1 + 1) 207 (fun _ => false)) := by rw [← hwx]; exact CellsAt.other HO.out _ _ (by simp; omega)
  have HGB : Hid (Below w.heap.size w wx) := by rw [← hwx]; exact HB2.out.setCell (Nat.le_refl _) _
  rw [hwx]
  clear hwx hg hsz c0 c1 c2 cA fA fB HA HO HX HB2
  have HR := Lib.hid (RegsIn.range HGA.out)
  have HT : Hid ((wx).there (w.heap.size + 1 + 1) 0 16) := CellsAt.there HGO.out (by omega)
  have HS : Hid (RegsIn ((wx).setCells (w.heap.size + 1 + 1) 0 (regsF g).toList) (w.heap.size + 1 + 1) 207 g) := RegsIn.store HGO.out _
  have HB : Hid (Below w.heap.size w ((wx).setCells (w.heap.size + 1 + 1) 0 (regsF g).toList)) := HGB.out.grown (grownBy_setCells _ _ _ _) (by have := HGB.out.size; omega) (fun k hk => by simp at hk; omega)
  go_wp2_with (first
   | refine wpList_load_mid (by rfl) 207 _ (by rfl) w.heap.size 0 (by rfl) (regsF g).toList _ HR.out Tryz.underlying207 (by rfl) (by rw [info207]; rfl) ?_
   | refine wpList_store_mid (by rfl) 207 _ _ (by rfl) (w.heap.size + 1 + 1) 0 (regsF g) (by rfl) (by rfl) HT.out (by rw [info207]; rfl) (regsF_ones _) ?_)
  refine bodyPost_ret (v := .agg (regsF g)) ?_ rfl ?_
  rotate_left
  ·exact ⟨by rw [HG.out], HB.out⟩
  exact results_cell Tryz.results142 (by rfl) (run_loadVar_mid (P := Tryz.prog) _ (w.heap.size + 1 + 1) 0 207 (regsF g).toList _ HS.out.range Tryz.underlying207 rfl (by rw [info207]; rfl))

end Code
end Go.Proofs.YtmpeipdeablkdaaGreatDoor

namespace Go.Proofs.YtmpeipdeablkdaaGreatDoor
open Go.RowKit

namespace Code

attribute [local go_sem ↓] Go.wp_at_zero Go.wp_at_succ

/-- does a way come, as far as known behind k instructions -/
def thereB (ps : List B.Ins) (k j : Nat) : Bool := (B.stAt ps k j).isSome

theorem there_next {ps : List B.Ins} {k : Nat} {x : B.Ins} (hx : ps[k]? = some x) (h : thereB ps k k = true) (j : Nat) : thereB ps (k + 1) j = (thereB ps k j || (x.next && decide (j = k + 1)) || (x.skips && decide (j = k + 1 + x.n.toNat))) := by
 unfold thereB at h ⊢
 cases hs : B.stAt ps k k with
 | none => rw [hs] at h; cases h
 | some v =>
  rw [stAt_some hx hs]
  unfold B.stNext
  cases x.next <;> cases x.skips <;> simp [B.come_isSome, Bool.or_comm, Bool.or_left_comm]

theorem there_same {ps : List B.Ins} {k : Nat} (h : thereB ps k k = false) (j : Nat) : thereB ps (k + 1) j = thereB ps k j := by
 unfold thereB at h ⊢
 cases hs : B.stAt ps k k with
 | none => rw [stAt_none hs]
 | some v => rw [hs] at h; cases h

theorem there_done {ps : List B.Ins} {j : Nat} (hj : j ≤ ps.length) : thereB ps ps.length j = B.reachB ps j := by
 unfold thereB
 rw [Bool.eq_iff_iff, B.reachB_iff, B.stAt_reach, B.reachBy_reach hj]

set_option maxRecDepth 100000 in
set_option maxHeartbeats 6400000 in
theorem lcome_any (a : Option Addr) (len cap : Nat) (ps : List B.Ins) (size slots : Int) (w : World) (hp : ProgAt w a len ps) (hok : B.OkTouch ps size slots) (hl : len ≤ 16384) :
    Calls Tryz.prog 139 #[.slice a len cap] w (BoolsOut (len + 1) (B.reachB ps) w) := by
 have HP := Lib.hid hp
 have HOK := Lib.hid hok
 obtain ⟨C, hmk, hC1, hC2⟩ := bools_made w len (by omega)
 have c00 : (w.alloc (.cells C 4)).cell? ⟨w.heap.size, 0, none⟩ = some (.bool false) := by rw [cell_of_row _ _ _ _ _ _ (heap_alloc_new w _)]; exact hC2 0 (by omega)
 have f00 : (w.alloc (.cells C 4)).frozen? ⟨w.heap.size, 0, none⟩ = false := frozen_blk (heap_alloc_new w _)
 have HR0 : Hid (BoolsIn (w.alloc (.cells (C.setIfInBounds 0 (.bool true)) 4)) w.heap.size (len + 1) (thereB ps 0)) := by
  refine ⟨_, heap_alloc_new w _, by simp [hC1], fun j hj => ?_⟩
  by_cases e : j = 0
  ·subst e
   rw [Array.getElem?_setIfInBounds_self_of_lt (by omega)]; rfl
  ·rw [Array.getElem?_setIfInBounds_ne (Ne.symm e), hC2 j hj]
   have : thereB ps 0 j = false := by
    unfold thereB
    show (if j = 0 then some 0 else none : Option Nat).isSome = false
    rw [if_neg e]; rfl
   simp only [this]
 have hlw : IntKind.i64.wrap ((len : Int) + 1) = (len : Int) + 1 := IntWalk.i64_in _ (by omega)
 clear hp hok hC1 hC2
 go_enter Tryz.func139, Tryz.ntmps139
 go_wp2_with fail
 go_loopw [14] (fun i wr => ∃ k : Nat, i = .int .i64 k ∧ k ≤ len ∧ BoolsIn wr w.heap.size (len + 1) (thereB ps k) ∧ Below w.heap.size w wr) (fun i _ => len - (intOf i).toNat)
 case atStart => exact ⟨0, rfl, Nat.zero_le _, HR0.out, (Below.refl _ _).alloc (Nat.le_refl _) _⟩
 case round =>
  obtain ⟨k, rfl, hk, hr, hb⟩ := hrel
  have hsz := hb.size
  have HB := Lib.hid hb
  have HR := Lib.hid hr
  have hLw := CellsAt.blk hr
  clear hmk c00 f00 HR0
  by_cases hlt : k < len
  ·have hx : ps[k]? = some (ps[k]'(by have := HP.out.len; omega)) := List.getElem?_eq_getElem _
   generalize ps[k]'(by have := HP.out.len; omega) = x at hx
   have HX := Lib.hid hx
   obtain ⟨b, off, rfl, hbl, hat⟩ := HP.out.at_ k x hx
   obtain ⟨h0, h1, h2, h3, h4⟩ := hat.below hb hbl
   have hbw : b < wr.heap.size := by omega
   have c0 := CellsAt.cell hr (j := k) (by omega)
   cases hs : thereB ps k k with
   | false =>
    rw [hs] at c0
    have HS : Hid (BoolsIn wr w.heap.size (len + 1) (thereB ps (k + 1))) := BoolsIn.congr hr (fun j _ => (there_same hs j).symm)
    clear hx hat hb hr hs
    go_wp2_with fail
    go_roundw
    case rel => exact ⟨k + 1, by go_num, by omega, CellsAt.alloc HS.out _, HB.out.alloc hsz _⟩
    case measure => simp [intOf]; omega
   | true =>
    rw [hs] at c0
    have hr' := HOK.out.right k x hx
    have hrb := B.right_bounds hr'
    obtain ⟨N, hN⟩ : ∃ N : Nat, x.n = N := ⟨x.n.toNat, by omega⟩
    have hN14 : N ≤ 16384 := by omega
    rw [hN] at h3
    have HN := Lib.hid hN
    have HTN := Lib.hid (fun j => there_next hx hs j)
    have hk1 : IntKind.i64.wrap ((k : Int) + 1) = (k : Int) + 1 := IntWalk.i64_in _ (by omega)
    have hk2 : IntKind.i64.wrap ((k : Int) + 1 + (N : Int)) = (k : Int) + 1 + (N : Int) := IntWalk.i64_in _ (by omega)
    have c1 := CellsAt.cell hr (j := k + 1) (by omega)
    have f1 := CellsAt.free hr (k + 1)
    clear hat hr' hrb
    by_cases e0 : x.op = 0
    ·have HS : Hid (BoolsIn wr w.heap.size (len + 1) (thereB ps (k + 1))) := BoolsIn.congr hr (fun j _ => by
       have h1 : x.next = false := by unfold B.Ins.next; simp [e0]
       have h2 : x.skips = false := by unfold B.Ins.skips; simp [e0]
       rw [HTN.out j, h1, h2]; simp)
     rw [e0] at h0
     clear hx hb hr hs e0 hN
     go_wp2_with fail
     go_roundw
     case rel => exact ⟨k + 1, by go_num, by omega, CellsAt.alloc HS.out _, HB.out.alloc hsz _⟩
     case measure => simp [intOf]; omega
    ·by_cases e18 : x.op = 18
     ·have hgl : k + 1 + N ≤ len := by have := goal_le HOK.out hx (.inl e18) hN; have := HP.out.len; omega
      have HS : Hid (BoolsIn (wr.setCell ⟨w.heap.size, k + 1 + N, none⟩ (.bool true)) w.heap.size (len + 1) (thereB ps (k + 1))) := by
       refine BoolsIn.congr (BoolsIn.set hr (k + 1 + N) true) (fun j _ => ?_)
       have h1 : x.next = false := by unfold B.Ins.next; simp [e18]
       have h2 : x.skips = true := by unfold B.Ins.skips; simp [e18]
       rw [HTN.out j, h1, h2, hN]
       by_cases e : j = k + 1 + N <;> simp [e]
      have c2 := CellsAt.cell hr (j := k + 1 + N) (by omega)
      have f2 := CellsAt.free hr (k + 1 + N)
      have HO := Lib.hid e18
      rw [e18] at h0
      clear hx hb hr hs e0 e18 hN HO
      go_wp2_with fail
      go_roundw
      case rel => exact ⟨k + 1, by go_num, by omega, CellsAt.alloc HS.out _, (HB.out.setCell (Nat.le_refl _) _).alloc (by simpa using hsz) _⟩
      case measure => simp [intOf]; omega
     ·by_cases e19 : x.op = 19
      ·have hgl : k + 1 + N ≤ len := by have := goal_le HOK.out hx (.inr e19) hN; have := HP.out.len; omega
       have hr1 := BoolsIn.set hr (k + 1 + N) true
       have HS : Hid (BoolsIn ((wr.setCell ⟨w.heap.size, k + 1 + N, none⟩ (.bool true)).setCell ⟨w.heap.size, k + 1, none⟩ (.bool true)) w.heap.size (len + 1) (thereB ps (k + 1))) := by
        refine BoolsIn.congr (BoolsIn.set hr1 (k + 1) true) (fun j _ => ?_)
        have h1 : x.next = true := by unfold B.Ins.next; simp [e19]
        have h2 : x.skips = true := by unfold B.Ins.skips; simp [e19]
        rw [HTN.out j, h1, h2, hN]
        by_cases e : j = k + 1 + N <;> by_cases e' : j = k + 1 <;> simp [e, e']
       have c2 := CellsAt.cell hr (j := k + 1 + N) (by omega)
       have f2 := CellsAt.free hr (k + 1 + N)
       have c3 := CellsAt.cell hr1 (j := k + 1) (by omega)
       have f3 := CellsAt.free hr1 (k + 1)
       rw [e19] at h0
       clear hx hb hr hr1 hs e0 e18 e19 hN c1 f1
       go_wp2_with fail
       go_roundw
       case rel => exact ⟨k + 1, by go_num, by omega, CellsAt.alloc HS.out _, ((HB.out.setCell (Nat.le_refl _) _).setCell (Nat.le_refl _) _).alloc (by simpa using hsz) _⟩
       case measure => simp [intOf]; omega
      ·have HS : Hid (BoolsIn (wr.setCell ⟨w.heap.size, k + 1, none⟩ (.bool true)) w.heap.size (len + 1) (thereB ps (k + 1))) := by
         refine BoolsIn.congr (BoolsIn.set hr (k + 1) true) (fun j _ => ?_)
         have h1 : x.next = true := by unfold B.Ins.next; simp [e0, e18]
         have h2 : x.skips = false := by unfold B.Ins.skips; simp [e18, e19]
         rw [HTN.out j, h1, h2]
         by_cases e' : j = k + 1 <;> simp [e']
       have q0 : (x.op != 0) = true := by simpa using e0
       have q1 : (x.op != 18) = true := by simpa using e18
       have q1' : (x.op == 18) = false := by simpa using e18
       have q2' : (x.op == 19) = false := by simpa using e19
       clear hx hb hr hs e0 e18 e19 hN
       go_wp2_with fail
       go_roundw
       case rel => exact ⟨k + 1, by go_num, by omega, CellsAt.alloc HS.out _, (HB.out.setCell (Nat.le_refl _) _).alloc (by simpa using hsz) _⟩
       case measure => simp [intOf]; omega
  ·obtain rfl : k = len := by omega
   clear hb hr
   go_wp2_with fail
   go_ret
   exact ⟨_, rfl, Nat.le_refl _, BoolsIn.congr HR.out (fun j hj => by have := HP.out.len; rw [this]; exact there_done (by omega)), HB.out⟩

end Code
end Go.Proofs.YtmpeipdeablkdaaGreatDoor

namespace Go.Proofs.YtmpeipdeablkdaaGreatDoor
open Go.RowKit

namespace Code

attribute [local go_sem ↓] Go.wp_at_zero Go.wp_at_succ

theorem infoI207 : (Tryz.prog.info? 207).map (fun i => (i.zero, i.size, i.bytes)) = some (some (.agg (regsF fun _ => false)), 16, 16) := by kernel_rfl
/-- rows of sixteen truths are made -/
theorem regs_made (w : World) (n : Nat) (hl : n ≤ 1000000) : ∃ C, (Instr.makeSlice 206 (.int .i64 ((n : Int) + 1)) (.int .i64 ((n : Int) + 1))).run Tryz.prog w = .ok (.slice (some ⟨w.heap.size, 0, none⟩) (n + 1) (n + 1)) (w.alloc (.cells C 207)) ∧
    C.size = (n + 1) * 16 ∧ ∀ j, j < (n + 1) * 16 → C[j]? = some (.bool false) := by
 obtain ⟨i, hi, hz0, hz1, hz2⟩ := info_parts infoI207
 have hr := run_make (P := Tryz.prog) w 206 207 i _ Tryz.underlying206 hi hz0 .i64 .i64 ((n : Int) + 1) ((n : Int) + 1) (by omega) (by omega) (by rw [hz2]; omega) (by omega)
 rw [show ((n : Int) + 1).toNat = n + 1 by omega, hz1] at hr
 refine ⟨_, hr, by rw [size_madeCells], fun j hj => ?_⟩
 have hs : (Value.agg (regsF fun _ => false)).cells = regsF fun _ => false := rfl
 rw [hs, madeCells, Array.getElem?_map, Array.getElem?_range, if_pos hj]
 have h16 : (regsF fun _ => false).size = 16 := rfl
 have hm : j % 16 < 16 := Nat.mod_lt _ (by omega)
 have hg := regsF_get (fun _ => false) (j % 16) hm
 simp [h16, getElem!_def, hg]

/-- what is read from each place on, as far as known -/
def rdF (ps : List B.Ins) (k j : Nat) : Value := .bool (decide (k ≤ j / 16) && B.rdAt ps (j / 16) (j % 16))
/-- how many stay from each place on, as far as known -/
def lfF (ps : List B.Ins) (k j : Nat) : Value := .int .i64 (if k ≤ j then (B.leftB ps j : Int) else 0)

/-- k instructions are still to come -/
structure DropAt (ps : List B.Ins) (len c r l k : Nat) (w wr : World) : Prop where
 cm : BoolsIn wr c (len + 1) (B.reachB ps)
 rd : CellsAt wr r 207 ((len + 1) * 16) (rdF ps k)
 lf : CellsAt wr l 3 (len + 1) (lfF ps k)
 bel : Below w.heap.size w wr
 hc : w.heap.size ≤ c
 hr : w.heap.size ≤ r
 hl : w.heap.size ≤ l
 cr : c ≠ r
 cl : c ≠ l
 rl : r ≠ l

/-- an instruction's variable and what is read behind it: the head of a round's end -/
structure MidAt (ps : List B.Ins) (len c r l i X O : Nat) (x : B.Ins) (g : Nat → Bool) (w wy : World) : Prop where
 at_ : DropAt ps len c r l (i + 1) w wy
 box : InsAt wy X 0 x
 out : RegsIn wy O 207 g
 bX : w.heap.size ≤ X
 bO : w.heap.size ≤ O
 ltX : X < wy.heap.size
 XO : X ≠ O
 cO : c ≠ O
 rO : r ≠ O
 lO : l ≠ O
 cX : c ≠ X
 rX : r ≠ X
 lX : l ≠ X

theorem DropAt.grown {ps : List B.Ins} {len c r l k g : Nat} {w wy wz : World} (h : DropAt ps len c r l k w wy) (hg : wy.grownBy wz (some g)) (hb : w.heap.size ≤ g) (hc : c ≠ g) (hr : r ≠ g) (hl : l ≠ g) : DropAt ps len c r l k w wz :=
 ⟨CellsAt.grown h.cm hg hc, CellsAt.grown h.rd hg hr, CellsAt.grown h.lf hg hl, h.bel.grown hg h.bel.size (fun k hk => by simp at hk; omega), h.hc, h.hr, h.hl, h.cr, h.cl, h.rl⟩

/-- what is read behind is put into its variable -/
theorem MidAt.store {ps : List B.Ins} {len c r l i X O : Nat} {x : B.Ins} {g : Nat → Bool} {w wy : World} (h : MidAt ps len c r l i X O x g w wy) (g' : Nat → Bool) : MidAt ps len c r l i X O x g' w (wy.setCells O 0 (regsF g').toList) := by
 have hg := grownBy_setCells O (regsF g').toList 0 wy
 exact ⟨h.at_.grown hg h.bO h.cO h.rO h.lO, InsAt.grown h.box hg h.ltX h.XO, RegsIn.store h.out g', h.bX, h.bO, Nat.lt_of_lt_of_le h.ltX hg.size, h.XO, h.cO, h.rO, h.lO, h.cX, h.rX, h.lX⟩

theorem MidAt.below {ps : List B.Ins} {len c r l i X O : Nat} {x : B.Ins} {g : Nat → Bool} {w wy wz : World} (h : MidAt ps len c r l i X O x g w wy) (hb : Below wy.heap.size wy wz) : MidAt ps len c r l i X O x g w wz := by
 have hs := h.at_.bel.size
 refine ⟨⟨CellsAt.below h.at_.cm hb (CellsAt.blk h.at_.cm), CellsAt.below h.at_.rd hb (CellsAt.blk h.at_.rd), CellsAt.below h.at_.lf hb (CellsAt.blk h.at_.lf), h.at_.bel.trans (hb.mono hs), h.at_.hc, h.at_.hr, h.at_.hl, h.at_.cr, h.at_.cl, h.at_.rl⟩, h.box.below hb h.ltX, CellsAt.below h.out hb (CellsAt.blk h.out), h.bX, h.bO, Nat.lt_of_lt_of_le h.ltX hb.size, h.XO, h.cO, h.rO, h.lO, h.cX, h.rX, h.lX⟩

theorem MidAt.drew {ps : List B.Ins} {len c r l i X O : Nat} {x : B.Ins} {g : Nat → Bool} {w wy : World} (h : MidAt ps len c r l i X O x g w wy) (n : Nat) : MidAt ps len c r l i X O x g w (wy.drewN n) := h.below (belowN (Below.refl _ _) n)

theorem MidAt.congr {ps : List B.Ins} {len c r l i X O : Nat} {x : B.Ins} {g g' : Nat → Bool} {w wy : World} (h : MidAt ps len c r l i X O x g w wy) (he : ∀ k, k < 16 → g k = g' k) : MidAt ps len c r l i X O x g' w wy :=
 ⟨h.at_, h.box, RegsIn.congr h.out he, h.bX, h.bO, h.ltX, h.XO, h.cO, h.rO, h.lO, h.cX, h.rX, h.lX⟩

/-- a row of the table of what is read -/
theorem DropAt.row {ps : List B.Ins} {len c r l k : Nat} {w wy : World} (h : DropAt ps len c r l k w wy) {j : Nat} (hj : j ≤ len) (hk : k ≤ j) : wy.rangeAt r (j * 16) (regsF (B.rdAt ps j)).toList := by
 refine CellsAt.range h.rd (by simp [regsF]; omega) ?_
 intro q v hq
 rw [Array.getElem?_toList] at hq
 have hlt : q < 16 := by
  have := (Array.getElem?_eq_some_iff.1 hq).1
  simpa [regsF] using this
 rw [regsF_get _ q hlt] at hq
 unfold rdF
 rw [show (j * 16 + q) / 16 = j by omega, show (j * 16 + q) % 16 = q by omega]
 simp only [hk, decide_true, Bool.true_and]
 exact Option.some.inj hq

theorem DropAt.left {ps : List B.Ins} {len c r l k : Nat} {w wy : World} (h : DropAt ps len c r l k w wy) {j : Nat} (hj : j ≤ len) (hk : k ≤ j) : wy.cell? ⟨l, j, none⟩ = some (.int .i64 (B.leftB ps j : Int)) := by
 have := CellsAt.cell h.lf (j := j) (by omega)
 unfold lfF at this
 rw [if_pos hk] at this
 exact this

/-- what is read behind an instruction, and how many stay behind it, are its own for the time being -/
structure EndAt (ps : List B.Ins) (len c r l i X O : Nat) (x : B.Ins) (g : Nat → Bool) (w wz : World) : Prop where
 cm : BoolsIn wz c (len + 1) (B.reachB ps)
 rd : CellsAt wz r 207 ((len + 1) * 16) (fun j => .bool (if j / 16 = i then g (j % 16) else decide (i + 1 ≤ j / 16) && B.rdAt ps (j / 16) (j % 16)))
 lf : CellsAt wz l 3 (len + 1) (fun j => .int .i64 (if j = i then (B.leftB ps (i + 1) : Int) else if i + 1 ≤ j then (B.leftB ps j : Int) else 0))
 bel : Below w.heap.size w wz
 box : InsAt wz X 0 x
 out : RegsIn wz O 207 g
 hc : w.heap.size ≤ c
 hr : w.heap.size ≤ r
 hl : w.heap.size ≤ l
 cr : c ≠ r
 cl : c ≠ l
 rl : r ≠ l

/-- the first half of it -/
structure EndA (ps : List B.Ins) (len c r l i X O : Nat) (x : B.Ins) (g : Nat → Bool) (w wz : World) : Prop where
 cm : BoolsIn wz c (len + 1) (B.reachB ps)
 rd : CellsAt wz r 207 ((len + 1) * 16) (fun j => .bool (if j / 16 = i then g (j % 16) else decide (i + 1 ≤ j / 16) && B.rdAt ps (j / 16) (j % 16)))
 lf : CellsAt wz l 3 (len + 1) (lfF ps (i + 1))
 bel : Below w.heap.size w wz
 box : InsAt wz X 0 x
 out : RegsIn wz O 207 g
 hc : w.heap.size ≤ c
 hr : w.heap.size ≤ r
 hl : w.heap.size ≤ l
 cr : c ≠ r
 rl : r ≠ l
 cl : c ≠ l
 lX : l ≠ X
 lO : l ≠ O

/-- sixteen truths go into a row -/
theorem row_set {ps : List B.Ins} {len r i k : Nat} {wy : World} (h : CellsAt wy r 207 ((len + 1) * 16) (rdF ps (i + 1))) (g : Nat → Bool) (_hi : k = i) :
    CellsAt (wy.setCells r (i * 16) (regsF g).toList) r 207 ((len + 1) * 16) (fun j => .bool (if j / 16 = i then g (j % 16) else decide (i + 1 ≤ j / 16) && B.rdAt ps (j / 16) (j % 16))) := by
 refine CellsAt.congr (CellsAt.setCells (regsF g).toList (i * 16) h) (fun j hj => ?_)
 have hl : (regsF g).toList.length = 16 := rfl
 rw [hl]
 by_cases e : j / 16 = i
 ·have e2 : i * 16 ≤ j ∧ j < i * 16 + 16 := by omega
  have e3 : j - i * 16 = j % 16 := by omega
  rw [if_pos e2, e3, List.getD_eq_getElem?_getD, Array.getElem?_toList, regsF_get g _ (by omega), if_pos e]
  rfl
 ·have e2 : ¬ (i * 16 ≤ j ∧ j < i * 16 + 16) := by omega
  rw [if_neg e2, if_neg e]
  rfl

theorem MidAt.endA {ps : List B.Ins} {len c r l i X O : Nat} {x : B.Ins} {g : Nat → Bool} {w wy : World} (h : MidAt ps len c r l i X O x g w wy) (_hi : i < len) : EndA ps len c r l i X O x g w (wy.setCells r (i * 16) (regsF g).toList) := by
 have hg := grownBy_setCells r (regsF g).toList (i * 16) wy
 exact ⟨CellsAt.grown h.at_.cm hg h.at_.cr, row_set (k := i) h.at_.rd g rfl, CellsAt.grown h.at_.lf hg (Ne.symm h.at_.rl), h.at_.bel.grown hg h.at_.bel.size (fun k hk => by have := h.at_.hr; simp at hk; omega), InsAt.grown h.box hg h.ltX (Ne.symm h.rX), CellsAt.grown h.out hg (Ne.symm h.rO), h.at_.hc, h.at_.hr, h.at_.hl, h.at_.cr, h.at_.rl, h.at_.cl, h.lX, h.lO⟩

theorem EndA.endAt {ps : List B.Ins} {len c r l i X O : Nat} {x : B.Ins} {g : Nat → Bool} {w wz : World} (h : EndA ps len c r l i X O x g w wz) (u1 : Nat) (hu : B.leftB ps (i + 1) = u1) : EndAt ps len c r l i X O x g w (wz.setCell ⟨l, i, none⟩ (.int .i64 (u1 : Int))) := by
 refine ⟨CellsAt.other h.cm _ _ h.cl, CellsAt.other h.rd _ _ h.rl, CellsAt.congr (CellsAt.set h.lf i _) (fun j hj => ?_), h.bel.setCell h.hl _, InsAt.other h.box _ _ (Ne.symm h.lX), CellsAt.other h.out _ _ (Ne.symm h.lO), h.hc, h.hr, h.hl, h.cr, h.cl, h.rl⟩
 unfold lfF
 by_cases e : j = i
 ·rw [if_pos e, if_pos e, hu]
 ·rw [if_neg e, if_neg e]

theorem EndAt.idle {ps : List B.Ins} {len c r l i X O : Nat} {x : B.Ins} {g : Nat → Bool} {w wz : World} (h : EndAt ps len c r l i X O x g w wz) (hs : B.stay ps i = false) (hx : ps[i]? = some x) (hg : B.behind x i (B.rdAt ps) = g) : DropAt ps len c r l i w wz := by
 refine ⟨h.cm, CellsAt.congr h.rd (fun j hj => ?_), CellsAt.congr h.lf (fun j hj => ?_), h.bel, h.hc, h.hr, h.hl, h.cr, h.cl, h.rl⟩
 ·unfold rdF
  by_cases e : j / 16 = i
  ·rw [if_pos e, e, B.rdAt_eq hx, hs, hg]
   simp
  ·rw [if_neg e]
   have : decide (i + 1 ≤ j / 16) = decide (i ≤ j / 16) := by rw [decide_eq_decide]; omega
   rw [this]
 ·unfold lfF
  by_cases e : j = i
  ·rw [if_pos e, if_pos (by omega), e, B.leftB_step ps i, hs]; simp
  ·rw [if_neg e]
   by_cases h2 : i ≤ j
   ·rw [if_pos (by omega), if_pos h2]
   ·rw [if_neg (by omega), if_neg h2]

theorem EndAt.below {ps : List B.Ins} {len c r l i X O : Nat} {x : B.Ins} {g : Nat → Bool} {w wz wy : World} (h : EndAt ps len c r l i X O x g w wz) (hb : Below wz.heap.size wz wy) : CellsAt wy r 207 ((len + 1) * 16) (fun j => .bool (if j / 16 = i then g (j % 16) else decide (i + 1 ≤ j / 16) && B.rdAt ps (j / 16) (j % 16))) ∧
    BoolsIn wy c (len + 1) (B.reachB ps) ∧ CellsAt wy l 3 (len + 1) (fun j => .int .i64 (if j = i then (B.leftB ps (i + 1) : Int) else if i + 1 ≤ j then (B.leftB ps j : Int) else 0)) ∧ Below w.heap.size w wy :=
 ⟨CellsAt.below h.rd hb (CellsAt.blk h.rd), CellsAt.below h.cm hb (CellsAt.blk h.cm), CellsAt.below h.lf hb (CellsAt.blk h.lf), h.bel.trans (hb.mono h.bel.size)⟩

/-- the instruction stays -/
theorem EndAt.kept {ps : List B.Ins} {len c r l i X O : Nat} {x : B.Ins} {g : Nat → Bool} {w wz wy : World} (h : EndAt ps len c r l i X O x g w wz) (hb : Below wz.heap.size wz wy) (hs : B.stay ps i = true) (hx : ps[i]? = some x) (hg : B.behind x i (B.rdAt ps) = g) :
    DropAt ps len c r l i w ((wy.setCells r (i * 16) (regsF (aheadF x g)).toList).setCell ⟨l, i, none⟩ (.int .i64 ((B.leftB ps (i + 1) : Int) + 1))) := by
 obtain ⟨h1, h2, h3, h4⟩ := h.below hb
 have hgr := grownBy_setCells r (regsF (aheadF x g)).toList (i * 16) wy
 refine ⟨CellsAt.other (CellsAt.grown h2 hgr h.cr) _ _ h.cl, CellsAt.congr (CellsAt.other (row_put h1 (aheadF x g)) _ _ h.rl) (fun j hj => ?_), CellsAt.congr (CellsAt.set (CellsAt.grown h3 hgr (Ne.symm h.rl)) i _) (fun j hj => ?_), (h4.grown hgr h4.size (fun k hk => by have := h.hr; simp at hk; omega)).setCell h.hl _, h.hc, h.hr, h.hl, h.cr, h.cl, h.rl⟩
 ·unfold rdF
  by_cases e : j / 16 = i
  ·rw [if_pos e, e, B.rdAt_eq hx, hs, hg]
   simp [aheadF]
  ·rw [if_neg e, if_neg e]
   have : decide (i + 1 ≤ j / 16) = decide (i ≤ j / 16) := by rw [decide_eq_decide]; omega
   rw [this]
 ·unfold lfF
  by_cases e : j = i
  ·rw [if_pos e, if_pos (by omega), e, B.leftB_step ps i, hs]; simp
  ·rw [if_neg e, if_neg e]
   by_cases h2 : i ≤ j
   ·rw [if_pos (by omega), if_pos h2]
   ·rw [if_neg (by omega), if_neg h2]

/-- so many instructions have been looked at: those that stay are a list of their own -/
structure KeepAt (ps : List B.Ins) (len l k : Nat) (ao : Option Addr) (cp : Nat) (w wr : World) : Prop where
 own : OwnP wr w.heap.size ao (B.dropTo ps k).length cp (B.dropTo ps k)
 lf : CellsAt wr l 3 (len + 1) (lfF ps 0)
 bel : Below w.heap.size w wr

theorem KeepAt.left {ps : List B.Ins} {len l k : Nat} {ao : Option Addr} {cp : Nat} {w wr : World} (h : KeepAt ps len l k ao cp w wr) {j : Nat} (hj : j ≤ len) : wr.cell? ⟨l, j, none⟩ = some (.int .i64 (B.leftB ps j : Int)) := by
 have := CellsAt.cell h.lf (j := j) (by omega)
 unfold lfF at this
 rw [if_pos (by omega)] at this
 exact this

theorem dropTo_le (ps : List B.Ins) (k : Nat) : (B.dropTo ps k).length ≤ k := by rw [B.dropTo_length]; exact B.idx_le ps k

theorem keptIns_eq {ps : List B.Ins} {i N : Nat} {x : B.Ins} (hs : x.skips = true) (hN : x.n = N) : B.keptIns ps i x = ⟨x.op, x.a, x.b, ((B.leftB ps (i + 1) - B.leftB ps (i + 1 + N) : Nat) : Int), x.imm⟩ := by
 unfold B.keptIns
 rw [if_pos hs, hN, B.leftB_diff ps (by omega)]
 rfl

/-- what Drop answers of a program that may be run -/
def DropOut (ps : List B.Ins) (w : World) (e : Ending) (w' : World) : Prop := ∃ ao cp, e = .returned (.tuple #[.slice ao (B.drop ps).length cp, .nilIface]) ∧ OwnP w' w.heap.size ao (B.drop ps).length cp (B.drop ps) ∧ Below w.heap.size w w'

set_option maxRecDepth 100000 in
set_option maxHeartbeats 6400000 in
theorem drop_yes (a : Option Addr) (len cap : Nat) (ps : List B.Ins) (size slots : Int) (w : World) (hp : ProgAt w a len ps) (hwf : ∀ y ∈ ps, y.Wf) (ht : Tabs w) (hm : B.MayRun ps size slots) :
    Calls Tryz.prog 94 #[.slice a len cap, .int .i64 size, .int .i64 slots] w (DropOut ps w) := by
 have HP := Lib.hid hp
 have HM := Lib.hid hm
 have HWF := Lib.hid hwf
 have HT := Lib.hid ht
 have hl : len ≤ 16384 := by have := hm.len; have := hp.len; omega
 have hlw : IntKind.i64.wrap ((len : Int) + 1) = (len : Int) + 1 := IntWalk.i64_in _ (by omega)
 clear hp hwf ht hm
 go_enter Tryz.func94, Tryz.ntmps94
 go_wp2_with fail
 refine (program_yes a len cap ps size slots _ HP.out HWF.out HT.out (by omega) HM.out).mono ?_
 rintro e w1 ⟨rfl, hb1⟩
 have HB1 := Lib.hid hb1
 have hs1 := hb1.size
 clear hb1
 go_wp2_with fail
 refine (lcome_any a len cap ps size slots _ (HP.out.below HB1.out (Nat.le_refl _)) HM.out.ok hl).mono ?_
 rintro e w2 ⟨c, rfl, hc, hcm, hb2⟩
 have hs2 := hb2.size
 obtain ⟨C1, hmk1, hC1, hC1'⟩ := regs_made w2 len (by omega)
 obtain ⟨C2, hmk2, hC2, hC2'⟩ := ints_made (w2.alloc (.cells C1 207)) len (by omega)
 have hcb := CellsAt.blk hcm
 have HD : Hid (DropAt ps len c w2.heap.size (w2.heap.size + 1) len w ((w2.alloc (.cells C1 207)).alloc (.cells C2 3))) := by
  refine ⟨(CellsAt.alloc (CellsAt.alloc hcm _) _), CellsAt.alloc ⟨C1, heap_alloc_new w2 _, hC1, fun j hj => ?_⟩ _, ⟨C2, ?_, hC2, fun j hj => ?_⟩, ((HB1.out.trans (hb2.mono hs1)).alloc (by omega) _).alloc (by simp; omega) _, by omega, by omega, by omega, by omega, by omega, by omega⟩
  ·rw [hC1' j hj]
   unfold rdF
   by_cases h : len ≤ j / 16
   ·rw [B.rdAt_far (by have := HP.out.len; omega)]; simp
   ·simp [h]
  ·have := heap_alloc_new (w2.alloc (.cells C1 207)) (.cells C2 3)
   simpa using this
  ·rw [hC2' j hj]
   unfold lfF
   by_cases h : len ≤ j
   ·rw [if_pos h, B.leftB_end ps (by have := HP.out.len; omega)]; rfl
   ·rw [if_neg h]
 rw [show (w2.alloc (.cells C1 207)).heap.size = w2.heap.size + 1 by simp] at hmk2
 clear hC1 hC1' hC2 hC2' hcm hb2
 go_wp2_with fail
 clear hmk1 hmk2 hs2 hc hcb
 generalize hR : w2.heap.size = R at *
 have HRS := Lib.hid hR
 clear hR
 go_loopg [12] len (fun k i wr => i = .int .i64 ((k : Int) - 1) ∧ k ≤ len ∧ DropAt ps len c R (R + 1) k w wr)
 case atStart => exact ⟨rfl, Nat.le_refl _, HD.out⟩
 case round =>
  obtain ⟨rfl, hk, hd⟩ := hrel
  have HDR := Lib.hid hd
  clear hd
  by_cases hz : gk = 0
  ·subst hz
   rw [show (((0 : Nat) : Int) - 1) = (-1 : Int) by omega]
   have HLF : Hid (CellsAt wr (R + 1) 3 (len + 1) (lfF ps 0)) := HDR.out.lf
   have HBW : Hid (Below w.heap.size w wr) := HDR.out.bel
   have hRw : w.heap.size ≤ R + 1 := HDR.out.hl
   clear HDR hk
   go_wp2_with fail
   go_loopw [17, 159] (fun v i wr => ∃ (k : Nat) (ao : Option Addr) (cp : Nat), k ≤ len ∧ i = .int .i64 k ∧ v = .slice ao (B.dropTo ps k).length cp ∧ KeepAt ps len (R + 1) k ao cp w wr) (fun _ i _ => len - (intOf i).toNat)
   case atStart => exact ⟨0, none, 0, Nat.zero_le _, rfl, rfl, OwnP.nil _ _, HLF.out, HBW.out⟩
   case round =>
    obtain ⟨k, ao, cp, hk, rfl, rfl, hka⟩ := hrel
    have HK := Lib.hid hka
    have hsz := hka.bel.size
    clear HLF HBW
    by_cases hlt : k < len
    ·have hx : ps[k]? = some (ps[k]'(by have := HP.out.len; omega)) := List.getElem?_eq_getElem _
     generalize ps[k]'(by have := HP.out.len; omega) = x at hx
     have HX := Lib.hid hx
     obtain ⟨b, off, rfl, hbl, hat⟩ := HP.out.at_ k x hx
     obtain ⟨h0, h1, h2, h3, h4⟩ := hat.below hka.bel hbl
     have hbw : b < wr.heap.size := by omega
     have hr := HM.out.ok.right k x hx
     obtain ⟨N, hN⟩ : ∃ N : Nat, x.n = N := ⟨x.n.toNat, by have := B.right_bounds hr; omega⟩
     have hN14 : N ≤ 16384 := by have := B.right_bounds hr; omega
     rw [hN] at h3
     have HN := Lib.hid hN
     have HRT := Lib.hid hr
     have k0 : (0 : Int) ≤ (k : Int) := by omega
     have hk1 : IntKind.i64.wrap ((k : Int) + 1) = (k : Int) + 1 := IntWalk.i64_in _ (by omega)
     have hk2 : IntKind.i64.wrap ((k : Int) + 1 + (N : Int)) = (k : Int) + 1 + (N : Int) := IntWalk.i64_in _ (by omega)
     clear hx hat hN hr hka hbl
     go_upto_region 33 with fail
     obtain ⟨wx, hwx⟩ : ∃ wx, wr.alloc (.cells #[.int .i64 x.op, .int .i64 x.a, .int .i64 x.b, .int .i64 N, .int .u64 x.imm] 24) = wx := ⟨_, rfl⟩
     have HBX : Hid (InsAt wx wr.heap.size 0 x ∧ Below wr.heap.size wr wx ∧ wr.heap.size < wx.heap.size ∧ wx.frozen? ⟨wr.heap.size, 3, none⟩ = false) := by
      rw [← hwx]
      have h := insAt_new x wr
      rw [HN.out] at h
      exact ⟨h, (Below.refl _ _).alloc (Nat.le_refl _) _, by simp, frozen_blk (heap_alloc_new wr _)⟩
     rw [hwx]
     have HLX : Hid (CellsAt wx (R + 1) 3 (len + 1) (lfF ps 0)) := CellsAt.below HK.out.lf HBX.out.2.1 (CellsAt.blk HK.out.lf)
     have HKX : Hid (∀ j, j ≤ len → wx.cell? ⟨R + 1, j, none⟩ = some (.int .i64 (B.leftB ps j : Int))) := by
      show ∀ j, _
      intro j hj
      have := CellsAt.cell HLX.out (j := j) (by omega)
      unfold lfF at this
      rw [if_pos (by omega)] at this
      exact this
     clear hwx h0 h1 h2 h3 h4 hbw
     have hRX : R + 1 < wr.heap.size := CellsAt.blk HK.out.lf
     generalize hXe : wr.heap.size = X at *
     have HXE := Lib.hid hXe
     clear hXe
     have d1 := HKX.out (k + 1) (by omega)
     have d0 := HKX.out k (by omega)
     have hst := B.leftB_step ps k
     have i0 : (k : Int) < (len : Int) + 1 := by omega
     have e1 : (0 : Int) ≤ (k : Int) + 1 := by omega
     have e1' : ¬ ((k : Int) + 1 < 0) := by omega
     have e2 : (k : Int) + 1 < (len : Int) + 1 := by omega
     have e3 : ((k : Int) + 1).toNat = k + 1 := by omega
     cases hs : B.stay ps k with
     | false =>
      rw [hs] at hst
      have hst2 : B.leftB ps k = B.leftB ps (k + 1) := by simpa using hst
      rw [hst2] at d0
      have HDT := Lib.hid (B.dropTo_idle hs)
      clear hst hst2 hs
      generalize B.leftB ps (k + 1) = u1 at *
      go_quiet (fail)
      clear e1 e1' e2 e3 i0
      go_wp2_with fail
      go_roundw
      case rel =>
       have hbx := belowN HBX.out.2.1 nq
       refine ⟨k + 1, ao, cp, by omega, by go_num, by rw [HDT.out], ⟨?_, ?_, ?_⟩⟩
       ·rw [HDT.out]; rw [← HXE.out] at hbx; exact HK.out.own.kept hbx
       ·exact CellsAt.drew HLX.out _
       ·exact HK.out.bel.trans (hbx.mono (by omega))
      case measure => simp [intOf]; omega
     | true =>
      rw [hs] at hst
      have hst2 : B.leftB ps k = B.leftB ps (k + 1) + 1 := by simpa using hst
      rw [hst2] at d0
      have d0' : wx.cell? ⟨R + 1, k, none⟩ = some (.int .i64 ((B.leftB ps (k + 1) : Int) + 1)) := by rw [d0]; congr 2
      have HDT := Lib.hid (B.dropTo_stay HX.out hs)
      have hub : B.leftB ps (k + 1) ≤ 16384 := by have := B.leftB_le ps (k + 1); have := HP.out.len; omega
      clear hst hst2 hs d0
      generalize hu1 : B.leftB ps (k + 1) = u1 at *
      have HU1 := Lib.hid hu1
      have q9 : (((u1 : Int) + 1) == (u1 : Int)) = false := by simp; omega
      clear hu1
      go_quiet (fail)
      clear q9 d0'
      go_upto_region 34 with fail
      obtain ⟨wq, hwq⟩ : ∃ wq, wx.drewN nq = wq := ⟨_, rfl⟩
      have HBQ : Hid (InsAt wq X 0 x ∧ Below X wr wq ∧ X < wq.heap.size ∧ wq.frozen? ⟨X, 3, none⟩ = false) := by
       rw [← hwq]
       have hd := belowN (Below.refl wx.heap.size wx) nq
       exact ⟨HBX.out.1.below hd HBX.out.2.2.1, HBX.out.2.1.trans (hd.mono (by have := HBX.out.2.2.1; omega)), Nat.lt_of_lt_of_le HBX.out.2.2.1 hd.size, (hd.frozen (p := ⟨X, 3, none⟩) HBX.out.2.2.1).trans HBX.out.2.2.2⟩
      have HLQ : Hid (CellsAt wq (R + 1) 3 (len + 1) (lfF ps 0)) := by rw [← hwq]; exact CellsAt.drew HLX.out _
      rw [hwq]
      clear hwq d1 HKX HBX
      have c0 := HBQ.out.1.c0
      have c1 := HBQ.out.1.c1
      have c2 := HBQ.out.1.c2
      have c3 := HBQ.out.1.c3
      have c4 := HBQ.out.1.c4
      rw [HN.out] at c3
      simp only [Nat.zero_add] at c1 c2 c3 c4
      cases hsk : x.skips with
      | false =>
       have q1 : (x.op == 18) = false := by unfold B.Ins.skips at hsk; simp at hsk ⊢; exact hsk.1
       have q2 : (x.op == 19) = false := by unfold B.Ins.skips at hsk; simp at hsk ⊢; exact hsk.2
       have HKE := Lib.hid (B.kept_same (p := ps) (i := k) hsk)
       have HOW : Hid (OwnP wq w.heap.size ao (B.dropTo ps k).length cp (B.dropTo ps k)) := HK.out.own.kept (by rw [HXE.out]; exact HBQ.out.2.1)
       have hdl := dropTo_le ps k
       have hws : w.heap.size ≤ wq.heap.size := by have := HBQ.out.2.2.1; omega
       clear hsk
       go_wp2_with (at_builtin; refine app_insG rfl _ _ rfl w.heap.size rfl HOW.out rfl (by omega) hws ?_; intro ao' cp' w6 hown6 hg6 hb6)
       go_roundw
       case rel =>
        refine ⟨k + 1, ao', cp', by omega, by go_num, by rw [HDT.out]; simp, ⟨?_, ?_, ?_⟩⟩
        ·rw [HDT.out, HKE.out]
         have e : x = ⟨x.op, x.a, x.b, (N : Int), x.imm⟩ := by have := HN.out; cases x; simp only at this; rw [this]
         rw [List.length_append, List.length_singleton]
         conv => arg 6; rw [e]
         exact hown6
        ·exact OwnP.apart HOW.out HLQ.out (CellsAt.alloc HLQ.out _) hg6
        ·exact HK.out.bel.trans (Below.trans (HBQ.out.2.1.mono (by omega)) hb6)
       case measure => simp [intOf]; omega
      | true =>
       have hoo : x.op = 18 ∨ x.op = 19 := by unfold B.Ins.skips at hsk; simpa using hsk
       rcases hoo with ho | ho
       ·have hgl : k + 1 + N ≤ len := by have := goal_le HM.out.ok HX.out (.inl ho) HN.out; have := HP.out.len; omega
        have q1 : (x.op == 18) = true := by simpa using ho
        have hle := B.leftB_mono ps (show k + 1 ≤ k + 1 + N by omega)
        have HKE := Lib.hid (keptIns_eq (ps := ps) (i := k) hsk HN.out)
        have d1 : wq.cell? ⟨R + 1, k + 1, none⟩ = some (.int .i64 (u1 : Int)) := by have := CellsAt.cell HLQ.out (j := k + 1) (by omega); unfold lfF at this; rw [if_pos (by omega), HU1.out] at this; exact this
        have d2 : wq.cell? ⟨R + 1, k + 1 + N, none⟩ = some (.int .i64 (B.leftB ps (k + 1 + N) : Int)) := by have := CellsAt.cell HLQ.out (j := k + 1 + N) (by omega); unfold lfF at this; rw [if_pos (by omega)] at this; exact this
        rw [HU1.out] at hle HKE
        generalize B.leftB ps (k + 1 + N) = u2 at *
        have hw1 : IntKind.i64.wrap ((u1 : Int) - (u2 : Int)) = (u1 : Int) - (u2 : Int) := IntWalk.i64_in _ (by omega)
        have f3 := HBQ.out.2.2.2
        have e4 : (0 : Int) ≤ (k : Int) + 1 + (N : Int) := by omega
        have e4' : ¬ ((k : Int) + 1 + (N : Int) < 0) := by omega
        have e5 : (k : Int) + 1 + (N : Int) < (len : Int) + 1 := by omega
        have e6 : ((k : Int) + 1 + (N : Int)).toNat = k + 1 + N := by omega
        clear ho hsk
        go_upto_region 35 with fail
        go_region
        go_upto_region 36 with fail
        have c0' : ((wq.setCell ⟨X, 3, none⟩ (.int .i64 ((u1 : Int) - (u2 : Int)))).drew).cell? ⟨X, 0, none⟩ = some (.int .i64 x.op) := by go_simp
        have c1' : ((wq.setCell ⟨X, 3, none⟩ (.int .i64 ((u1 : Int) - (u2 : Int)))).drew).cell? ⟨X, 1, none⟩ = some (.int .i64 x.a) := by go_simp
        have c2' : ((wq.setCell ⟨X, 3, none⟩ (.int .i64 ((u1 : Int) - (u2 : Int)))).drew).cell? ⟨X, 2, none⟩ = some (.int .i64 x.b) := by go_simp
        have c3' : ((wq.setCell ⟨X, 3, none⟩ (.int .i64 ((u1 : Int) - (u2 : Int)))).drew).cell? ⟨X, 3, none⟩ = some (.int .i64 ((u1 : Int) - (u2 : Int))) := by go_simp
        have c4' : ((wq.setCell ⟨X, 3, none⟩ (.int .i64 ((u1 : Int) - (u2 : Int)))).drew).cell? ⟨X, 4, none⟩ = some (.int .u64 x.imm) := by go_simp
        obtain ⟨wz, hwz⟩ : ∃ wz, (wq.setCell ⟨X, 3, none⟩ (.int .i64 ((u1 : Int) - (u2 : Int)))).drew = wz := ⟨_, rfl⟩
        have HBZ : Hid (Below X wr wz ∧ X < wz.heap.size) := by rw [← hwz]; exact ⟨(HBQ.out.2.1.setCell (Nat.le_refl _) _).drew, by simpa using HBQ.out.2.2.1⟩
        have HLZ : Hid (CellsAt wz (R + 1) 3 (len + 1) (lfF ps 0)) := by rw [← hwz]; exact CellsAt.drew (CellsAt.other HLQ.out _ _ (by simp; omega)) 1
        have HOW : Hid (OwnP wz w.heap.size ao (B.dropTo ps k).length cp (B.dropTo ps k)) := HK.out.own.kept (by rw [HXE.out]; exact HBZ.out.1)
        rw [hwz]
        rw [hwz] at c0' c1' c2' c3' c4'
        clear hwz c0 c1 c2 c3 c4 d1 d2 f3 e4 e4' e5 e6 e1 e1' e2 e3 i0 hw1
        have hdl := dropTo_le ps k
        have hws : w.heap.size ≤ wz.heap.size := by have := HBZ.out.2; omega
        go_wp2_with (at_builtin; refine app_insG rfl _ _ rfl w.heap.size rfl HOW.out rfl (by omega) hws ?_; intro ao' cp' w6 hown6 hg6 hb6)
        go_roundw
        case rel =>
         refine ⟨k + 1, ao', cp', by omega, by go_num, by rw [HDT.out]; simp, ⟨?_, ?_, ?_⟩⟩
         ·rw [HDT.out, HKE.out]
          have e : ((u1 - u2 : Nat) : Int) = (u1 : Int) - (u2 : Int) := by omega
          rw [List.length_append, List.length_singleton, e]
          exact hown6
         ·exact OwnP.apart HOW.out HLZ.out (CellsAt.alloc HLZ.out _) hg6
         ·exact HK.out.bel.trans (Below.trans (HBZ.out.1.mono (by omega)) hb6)
        case measure => simp [intOf]; omega
       ·have hgl : k + 1 + N ≤ len := by have := goal_le HM.out.ok HX.out (.inr ho) HN.out; have := HP.out.len; omega
        have q1 : (x.op == 18) = false := by simp [ho]
        have q2 : (x.op == 19) = true := by simpa using ho
        have hle := B.leftB_mono ps (show k + 1 ≤ k + 1 + N by omega)
        have HKE := Lib.hid (keptIns_eq (ps := ps) (i := k) hsk HN.out)
        have d1 : wq.cell? ⟨R + 1, k + 1, none⟩ = some (.int .i64 (u1 : Int)) := by have := CellsAt.cell HLQ.out (j := k + 1) (by omega); unfold lfF at this; rw [if_pos (by omega), HU1.out] at this; exact this
        have d2 : wq.cell? ⟨R + 1, k + 1 + N, none⟩ = some (.int .i64 (B.leftB ps (k + 1 + N) : Int)) := by have := CellsAt.cell HLQ.out (j := k + 1 + N) (by omega); unfold lfF at this; rw [if_pos (by omega)] at this; exact this
        rw [HU1.out] at hle HKE
        generalize B.leftB ps (k + 1 + N) = u2 at *
        have hw1 : IntKind.i64.wrap ((u1 : Int) - (u2 : Int)) = (u1 : Int) - (u2 : Int) := IntWalk.i64_in _ (by omega)
        have f3 := HBQ.out.2.2.2
        have e4 : (0 : Int) ≤ (k : Int) + 1 + (N : Int) := by omega
        have e4' : ¬ ((k : Int) + 1 + (N : Int) < 0) := by omega
        have e5 : (k : Int) + 1 + (N : Int) < (len : Int) + 1 := by omega
        have e6 : ((k : Int) + 1 + (N : Int)).toNat = k + 1 + N := by omega
        clear ho hsk
        go_upto_region 35 with fail
        go_region
        go_upto_region 36 with fail
        have c0' : ((wq.setCell ⟨X, 3, none⟩ (.int .i64 ((u1 : Int) - (u2 : Int)))).drew).cell? ⟨X, 0, none⟩ = some (.int .i64 x.op) := by go_simp
        have c1' : ((wq.setCell ⟨X, 3, none⟩ (.int .i64 ((u1 : Int) - (u2 : Int)))).drew).cell? ⟨X, 1, none⟩ = some (.int .i64 x.a) := by go_simp
        have c2' : ((wq.setCell ⟨X, 3, none⟩ (.int .i64 ((u1 : Int) - (u2 : Int)))).drew).cell? ⟨X, 2, none⟩ = some (.int .i64 x.b) := by go_simp
        have c3' : ((wq.setCell ⟨X, 3, none⟩ (.int .i64 ((u1 : Int) - (u2 : Int)))).drew).cell? ⟨X, 3, none⟩ = some (.int .i64 ((u1 : Int) - (u2 : Int))) := by go_simp
        have c4' : ((wq.setCell ⟨X, 3, none⟩ (.int .i64 ((u1 : Int) - (u2 : Int)))).drew).cell? ⟨X, 4, none⟩ = some (.int .u64 x.imm) := by go_simp
        obtain ⟨wz, hwz⟩ : ∃ wz, (wq.setCell ⟨X, 3, none⟩ (.int .i64 ((u1 : Int) - (u2 : Int)))).drew = wz := ⟨_, rfl⟩
        have HBZ : Hid (Below X wr wz ∧ X < wz.heap.size) := by rw [← hwz]; exact ⟨(HBQ.out.2.1.setCell (Nat.le_refl _) _).drew, by simpa using HBQ.out.2.2.1⟩
        have HLZ : Hid (CellsAt wz (R + 1) 3 (len + 1) (lfF ps 0)) := by rw [← hwz]; exact CellsAt.drew (CellsAt.other HLQ.out _ _ (by simp; omega)) 1
        have HOW : Hid (OwnP wz w.heap.size ao (B.dropTo ps k).length cp (B.dropTo ps k)) := HK.out.own.kept (by rw [HXE.out]; exact HBZ.out.1)
        rw [hwz]
        rw [hwz] at c0' c1' c2' c3' c4'
        clear hwz c0 c1 c2 c3 c4 d1 d2 f3 e4 e4' e5 e6 e1 e1' e2 e3 i0 hw1
        have hdl := dropTo_le ps k
        have hws : w.heap.size ≤ wz.heap.size := by have := HBZ.out.2; omega
        go_wp2_with (at_builtin; refine app_insG rfl _ _ rfl w.heap.size rfl HOW.out rfl (by omega) hws ?_; intro ao' cp' w6 hown6 hg6 hb6)
        go_roundw
        case rel =>
         refine ⟨k + 1, ao', cp', by omega, by go_num, by rw [HDT.out]; simp, ⟨?_, ?_, ?_⟩⟩
         ·rw [HDT.out, HKE.out]
          have e : ((u1 - u2 : Nat) : Int) = (u1 : Int) - (u2 : Int) := by omega
          rw [List.length_append, List.length_singleton, e]
          exact hown6
         ·exact OwnP.apart HOW.out HLZ.out (CellsAt.alloc HLZ.out _) hg6
         ·exact HK.out.bel.trans (Below.trans (HBZ.out.1.mono (by omega)) hb6)
        case measure => simp [intOf]; omega
    ·obtain rfl : k = len := by omega
     have hdl := HP.out.len
     clear hka
     go_wp2_with fail
     go_ret2
     have e : B.dropTo ps k = B.drop ps := by rw [hdl]; exact B.dropTo_all ps
     have h1 := HK.out.own
     rw [e] at h1
     exact ⟨ao, cp, by rw [e]; rfl, h1, HK.out.bel⟩
  ·obtain ⟨i, rfl⟩ : ∃ i, gk = i + 1 := ⟨gk - 1, by omega⟩
   rw [show (((i + 1 : Nat) : Int) - 1) = (i : Int) by omega]
   have hx : ps[i]? = some (ps[i]'(by have := HP.out.len; omega)) := List.getElem?_eq_getElem _
   generalize ps[i]'(by have := HP.out.len; omega) = x at hx
   have HX := Lib.hid hx
   obtain ⟨b, off, rfl, hbl, hat⟩ := HP.out.at_ i x hx
   obtain ⟨h0, h1, h2, h3, h4⟩ := hat.below HDR.out.bel hbl
   have hbw : b < wr.heap.size := by have := HDR.out.bel.size; omega
   have i0 : (0 : Int) ≤ (i : Int) := by omega
   have ilt : i < len := by omega
   have hk1 : IntKind.i64.wrap ((i : Int) + 1) = (i : Int) + 1 := IntWalk.i64_in _ (by omega)
   have hr := HM.out.ok.right i x hx
   obtain ⟨N, hN⟩ : ∃ N : Nat, x.n = N := ⟨x.n.toNat, by have := B.right_bounds hr; omega⟩
   have hN14 : N ≤ 16384 := by have := B.right_bounds hr; omega
   have hk2 : IntKind.i64.wrap ((i : Int) + 1 + (N : Int)) = (i : Int) + 1 + (N : Int) := IntWalk.i64_in _ (by omega)
   rw [hN] at h3
   have HN := Lib.hid hN
   have HRT := Lib.hid hr
   clear hx hat hz hN hr
   go_upto_block 2 with fail
   obtain ⟨wx, hwx⟩ : ∃ wx, (wr.alloc (.cells #[.int .i64 x.op, .int .i64 x.a, .int .i64 x.b, .int .i64 N, .int .u64 x.imm] 24)).alloc (.cells (regsF fun _ => false) 207) = wx := ⟨_, rfl⟩
   have HMD : Hid (MidAt ps len c R (R + 1) i wr.heap.size (wr.heap.size + 1) x (fun _ => false) w wx) := by
    have hsz := HDR.out.bel.size
    have b1 := CellsAt.blk HDR.out.cm
    have b2 := CellsAt.blk HDR.out.rd
    have b3 := CellsAt.blk HDR.out.lf
    rw [← hwx]
    refine ⟨⟨CellsAt.alloc (CellsAt.alloc HDR.out.cm _) _, CellsAt.alloc (CellsAt.alloc HDR.out.rd _) _, CellsAt.alloc (CellsAt.alloc HDR.out.lf _) _, (HDR.out.bel.alloc hsz _).alloc (by simp; omega) _, HDR.out.hc, HDR.out.hr, HDR.out.hl, HDR.out.cr, HDR.out.cl, HDR.out.rl⟩, ?_, ?_, by omega, by omega, by simp; omega, by omega, by omega, by omega, by omega, by omega, by omega, by omega⟩
    ·have h := insAt_new x wr
     rw [HN.out] at h
     exact h.below ((Below.refl (wr.heap.size + 1) _).alloc (by simp) _) (by omega)
    ·have h := RegsIn.new (fun _ => false) 207 (wr.alloc (.cells #[.int .i64 x.op, .int .i64 x.a, .int .i64 x.b, .int .i64 N, .int .u64 x.imm] 24))
     simpa using h
   unfold regsF at hwx
   rw [hwx]
   clear hwx h0 h1 h2 h3 h4 hbw HDR
   generalize hX : wr.heap.size = X at *
   clear hX
   go_cut [15, 16] from 40 to 156 (fun v15 _ wy => v15 = .bool (B.usB ps i x) ∧ MidAt ps len c R (R + 1) i X (X + 1) x (B.behind x i (B.rdAt ps)) w wy)
   case first =>
    have c3 := HMD.out.box.c3
    rw [HN.out] at c3
    have d1 := HMD.out.at_.left (j := i + 1) (by omega) (by omega)
    by_cases e0 : x.op = 0
    ·have HU : Hid (B.usB ps i x = decide (0 < B.leftB ps (i + 1))) := B.us_halt HX.out e0
     have HM2 : Hid (MidAt ps len c R (R + 1) i X (X + 1) x (B.behind x i (B.rdAt ps)) w wx) := HMD.out.congr (fun k _ => by unfold B.behind B.Ins.next B.Ins.skips; simp [e0])
     have q0 : (x.op == 0) = true := by simpa using e0
     clear e0
     generalize B.leftB ps (i + 1) = u1 at *
     go_wp2_with fail
     go_meet
     exact ⟨by rw [HU.out], HM2.out⟩
    ·by_cases e18 : x.op = 18
     ·have hgl : i + 1 + N ≤ len := by have := goal_le HM.out.ok HX.out (.inl e18) HN.out; have := HP.out.len; omega
      have HU : Hid (B.usB ps i x = decide (B.leftB ps (i + 1 + N) < B.leftB ps (i + 1))) := by have := B.us_skips (p := ps) (i := i) (x := x) (by unfold B.Ins.skips; simp [e18]); rw [HN.out] at this; exact this
      have HBE : Hid (∀ k, B.rdAt ps (i + 1 + N) k = B.behind x i (B.rdAt ps) k) := by show ∀ k, _; intro k; unfold B.behind B.Ins.next B.Ins.skips; rw [HN.out]; simp [e18]
      have HROW := Lib.hid (HMD.out.at_.row (j := i + 1 + N) (by omega) (by omega))
      have HTO : Hid (wx.there (X + 1) 0 16) := CellsAt.there HMD.out.out (by omega)
      have HM2 := Lib.hid (HMD.out.store (B.rdAt ps (i + 1 + N)))
      have q0 : (x.op == 0) = false := by simpa using e0
      have q1 : (x.op == 18) = true := by simpa using e18
      clear d1 e0 e18
      go_upto_region 21 with (first
       | refine wpList_load_mid (by rfl) 207 _ (by rfl) R ((i + 1 + N) * 16) (by rfl) (regsF (B.rdAt ps (i + 1 + N))).toList _ HROW.out Tryz.underlying207 (by rfl) (by rw [info207]; rfl) ?_
       | refine wpList_store_mid (by rfl) 207 _ _ (by rfl) (X + 1) 0 (regsF (B.rdAt ps (i + 1 + N))) (by rfl) (by rfl) HTO.out (by rw [info207]; rfl) (regsF_ones _) ?_)
      obtain ⟨wy, hwy⟩ : ∃ wy, wx.setCells (X + 1) 0 (regsF (B.rdAt ps (i + 1 + N))).toList = wy := ⟨_, rfl⟩
      have HM3 : Hid (MidAt ps len c R (R + 1) i X (X + 1) x (B.behind x i (B.rdAt ps)) w wy) := by rw [← hwy]; exact HM2.out.congr (fun k _ => HBE.out k)
      rw [hwy]
      clear hwy HM2 HROW HTO c3
      have d1 := HM3.out.at_.left (j := i + 1) (by omega) (by omega)
      have d2 := HM3.out.at_.left (j := i + 1 + N) (by omega) (by omega)
      have c3 := HM3.out.box.c3
      rw [HN.out] at c3
      generalize B.leftB ps (i + 1) = u1 at *
      generalize B.leftB ps (i + 1 + N) = u2 at *
      have e1 : (0 : Int) ≤ (i : Int) + 1 := by omega
      have e1' : ¬ ((i : Int) + 1 < 0) := by omega
      have e2 : (i : Int) + 1 < (len : Int) + 1 := by omega
      have e3 : ((i : Int) + 1).toNat = i + 1 := by omega
      have e4 : (0 : Int) ≤ (i : Int) + 1 + (N : Int) := by omega
      have e4' : ¬ ((i : Int) + 1 + (N : Int) < 0) := by omega
      have e5 : (i : Int) + 1 + (N : Int) < (len : Int) + 1 := by omega
      have e6 : ((i : Int) + 1 + (N : Int)).toNat = i + 1 + N := by omega
      go_quiet (fail)
      clear e1 e1' e2 e3 e4 e4' e5 e6
      go_wp2_with fail
      go_meet
      exact ⟨by rw [HU.out], HM3.out.drew _⟩
     ·by_cases e19 : x.op = 19
      ·have hgl : i + 1 + N ≤ len := by have := goal_le HM.out.ok HX.out (.inr e19) HN.out; have := HP.out.len; omega
       have HU : Hid (B.usB ps i x = decide (B.leftB ps (i + 1 + N) < B.leftB ps (i + 1))) := by have := B.us_skips (p := ps) (i := i) (x := x) (by unfold B.Ins.skips; simp [e19]); rw [HN.out] at this; exact this
       have HBE : Hid (∀ k, (B.rdAt ps (i + 1) k || B.rdAt ps (i + 1 + N) k) = B.behind x i (B.rdAt ps) k) := by show ∀ k, _; intro k; unfold B.behind B.Ins.next B.Ins.skips; rw [HN.out]; simp [e19]
       have hr1 := HMD.out.at_.row (j := i + 1) (by omega) (by omega)
       have hr2 := HMD.out.at_.row (j := i + 1 + N) (by omega) (by omega)
       have q0 : (x.op == 0) = false := by simpa using e0
       have q1 : (x.op == 18) = false := by simpa using e18
       have q2 : (x.op == 19) = true := by simpa using e19
       have HC3 := Lib.hid c3
       have HR1 := Lib.hid hr1
       have HR2 := Lib.hid hr2
       have hRX : R < wx.heap.size := CellsAt.blk HMD.out.at_.rd
       have hXX : X < wx.heap.size := HMD.out.ltX
       clear d1 e0 e18 e19 hr1 hr2
       go_upto_region 23 with fail
       generalize hg1 : B.rdAt ps (i + 1) = g1 at *
       generalize hg2 : B.rdAt ps (i + 1 + N) = g2 at *
       have HG1 := Lib.hid hg1
       have HG2 := Lib.hid hg2
       clear c3 hg1 hg2
       go_cut [] from 40 to 156 (fun wy => MidAt ps len c R (R + 1) i X (X + 1) x (B.behind x i (B.rdAt ps)) w wy)
       case first =>
        refine wp_region_held_drew (S := fun w' => w'.rangeAt R ((i + 1) * 16) (regsF g1).toList ∧ w'.rangeAt R ((i + 1 + N) * 16) (regsF g2).toList ∧ w'.cell? ⟨X, 3, none⟩ = some (.int .i64 (N : Int))) (by kernel_rfl) ⟨fun j v h => HR1.out j v h, fun j v h => HR2.out j v h, HC3.out⟩ (fun hS0 => ?_)
        refine takeS (i := 0) (d := 98) (v := (.slice (some ⟨R, 0, none⟩) (len + 1) (len + 1))) rfl rfl rfl (by kernel_rfl) (by kernel_rfl) (by kernel_rfl) (fun _ _ _ h => h) (fun w' _ => by go_simp) hS0 ?_
        simp only [Act.put, List.setIfInBounds_toArray, List.set_cons_zero, List.set_cons_succ]
        refine takeS (i := 1) (d := 99) (v := (.int .i64 (i : Int))) rfl rfl rfl (by kernel_rfl) (by kernel_rfl) (by kernel_rfl) (fun _ _ _ h => h) (fun w' _ => by go_simp) hS0 ?_
        simp only [Act.put, List.setIfInBounds_toArray, List.set_cons_zero, List.set_cons_succ]
        refine takeS (i := 2) (d := 100) (v := (.int .i64 ((i : Int) + 1))) rfl rfl rfl (by kernel_rfl) (by kernel_rfl) (by kernel_rfl) (fun _ _ _ h => h) (fun w' _ => by go_simp) hS0 ?_
        simp only [Act.put, List.setIfInBounds_toArray, List.set_cons_zero, List.set_cons_succ]
        refine takeS (i := 3) (d := 101) (v := (.pointer (some ⟨R, (i + 1) * 16, none⟩))) rfl rfl rfl (by kernel_rfl) (by kernel_rfl) (by kernel_rfl) (fun _ _ _ h => h) (fun w' _ => by have hn1 : ¬ ((i : Int) + 1 < 0) := (by omega); go_simp) hS0 ?_
        simp only [Act.put, List.setIfInBounds_toArray, List.set_cons_zero, List.set_cons_succ]
        refine takeM (i := 4) (d := 102) 207 _ R ((i + 1) * 16) (regsF g1) _ rfl rfl rfl rfl (by rfl) Tryz.underlying207 rfl (by rw [info207]; rfl) (by kernel_rfl) (by kernel_rfl) (by kernel_rfl) (fun _ _ _ h => h) (fun w' hw => hw.1) hS0 ?_
        simp only [Act.put, List.setIfInBounds_toArray, List.set_cons_zero, List.set_cons_succ]
        refine takeS (i := 5) (d := 103) (v := (.slice (some ⟨R, 0, none⟩) (len + 1) (len + 1))) rfl rfl rfl (by kernel_rfl) (by kernel_rfl) (by kernel_rfl) (fun _ _ _ h => h) (fun w' _ => by go_simp) hS0 ?_
        simp only [Act.put, List.setIfInBounds_toArray, List.set_cons_zero, List.set_cons_succ]
        refine takeS (i := 6) (d := 104) (v := (.int .i64 (i : Int))) rfl rfl rfl (by kernel_rfl) (by kernel_rfl) (by kernel_rfl) (fun _ _ _ h => h) (fun w' _ => by go_simp) hS0 ?_
        simp only [Act.put, List.setIfInBounds_toArray, List.set_cons_zero, List.set_cons_succ]
        refine takeS (i := 7) (d := 105) (v := (.int .i64 ((i : Int) + 1))) rfl rfl rfl (by kernel_rfl) (by kernel_rfl) (by kernel_rfl) (fun _ _ _ h => h) (fun w' _ => by go_simp) hS0 ?_
        simp only [Act.put, List.setIfInBounds_toArray, List.set_cons_zero, List.set_cons_succ]
        refine takeS (i := 8) (d := 106) (v := (.pointer (some ⟨X, 3, none⟩))) rfl rfl rfl (by kernel_rfl) (by kernel_rfl) (by kernel_rfl) (fun _ _ _ h => h) (fun w' _ => by go_simp) hS0 ?_
        simp only [Act.put, List.setIfInBounds_toArray, List.set_cons_zero, List.set_cons_succ]
        refine takeS (i := 9) (d := 107) (v := (.int .i64 (N : Int))) rfl rfl rfl (by kernel_rfl) (by kernel_rfl) (by kernel_rfl) (fun _ _ _ h => h) (fun w' hw => by have hc := hw.2.2; go_simp) hS0 ?_
        simp only [Act.put, List.setIfInBounds_toArray, List.set_cons_zero, List.set_cons_succ]
        refine takeS (i := 10) (d := 108) (v := (.int .i64 ((i : Int) + 1 + (N : Int)))) rfl rfl rfl (by kernel_rfl) (by kernel_rfl) (by kernel_rfl) (fun _ _ _ h => h) (fun w' _ => by go_simp) hS0 ?_
        simp only [Act.put, List.setIfInBounds_toArray, List.set_cons_zero, List.set_cons_succ]
        refine takeS (i := 11) (d := 109) (v := (.pointer (some ⟨R, (i + 1 + N) * 16, none⟩))) rfl rfl rfl (by kernel_rfl) (by kernel_rfl) (by kernel_rfl) (fun _ _ _ h => h) (fun w' _ => by have ha : (0 : Int) ≤ (i : Int) + 1 + (N : Int) := (by omega); have hb : (i : Int) + 1 + (N : Int) < (len : Int) + 1 := (by omega); have hc : ((i : Int) + 1 + (N : Int)).toNat = i + 1 + N := (by omega); go_simp) hS0 ?_
        simp only [Act.put, List.setIfInBounds_toArray, List.set_cons_zero, List.set_cons_succ]
        refine takeM (i := 12) (d := 110) 207 _ R ((i + 1 + N) * 16) (regsF g2) _ rfl rfl rfl rfl (by rfl) Tryz.underlying207 rfl (by rw [info207]; rfl) (by kernel_rfl) (by kernel_rfl) (by kernel_rfl) (fun _ _ _ h => h) (fun w' hw => hw.2.1) hS0 ?_
        simp only [Act.put, List.setIfInBounds_toArray, List.set_cons_zero, List.set_cons_succ]
        refine wpAnyH_ready (rs := [13]) (by kernel_rfl) (by simp) ?_
        refine AllReadyH.cons rfl (fun K hK => ?_) AllReadyH.nil
        go_simp
        refine (or_any g1 g2 _).mono ?_
        rintro e w3 ⟨rfl, hb3⟩
        have hm3 := (HMD.out.drew 1).below hb3
        refine hK.out _ _ ⟨fun j v h => (hb3.cell (p := ⟨R, _, none⟩) hRX).trans (HR1.out j v h), fun j v h => (hb3.cell (p := ⟨R, _, none⟩) hRX).trans (HR2.out j v h), (hb3.cell (p := ⟨X, 3, none⟩) hXX).trans HC3.out⟩ (fun hS1 => ?_)
        clear hK K
        refine wpAnyH_ready (rs := [14]) (by kernel_rfl) (by simp) ?_
        refine AllReadyH.cons rfl (fun K hK => ?_) AllReadyH.nil
        rw [if_pos (by rfl)]
        refine wp_store_mid 207 _ _ (by rfl) (X + 1) 0 (regsF fun r => g1 r || g2 r) (by rfl) (by rfl) (show _ from CellsAt.there (o := 0) (m := 16) hm3.out (by omega)) (by rw [info207]; rfl) (regsF_ones _) ?_
        have hm4 := hm3.store (fun r => g1 r || g2 r)
        refine hK.out _ _ ⟨?_, ?_, ?_⟩ (fun hS2 => ?_)
        ·exact range_grown hS1.1 (grownBy_setCells _ _ _ _) (CellsAt.blk hm3.at_.rd) hm3.rO
        ·exact range_grown hS1.2.1 (grownBy_setCells _ _ _ _) (CellsAt.blk hm3.at_.rd) hm3.rO
        ·have := hm4.box.c3
         rw [HN.out] at this
         exact this
        clear hK K
        refine wpAnyH_done (by kernel_rfl) ?_ _
        go_wp2_with fail
        go_meet
        exact hm4.congr (fun k _ => HBE.out k)
       case rest =>
        have HM3 := Lib.hid hcut
        have d1 := hcut.at_.left (j := i + 1) (by omega) (by omega)
        have d2 := hcut.at_.left (j := i + 1 + N) (by omega) (by omega)
        have c3 := hcut.box.c3
        rw [HN.out] at c3
        clear hcut HR1 HR2 HC3 HBE HG1 HG2 hRX hXX HMD
        generalize B.leftB ps (i + 1) = u1 at *
        generalize B.leftB ps (i + 1 + N) = u2 at *
        go_wp2_with fail
        have e1 : (0 : Int) ≤ (i : Int) + 1 := by omega
        have e1' : ¬ ((i : Int) + 1 < 0) := by omega
        have e2 : (i : Int) + 1 < (len : Int) + 1 := by omega
        have e3 : ((i : Int) + 1).toNat = i + 1 := by omega
        have e4 : (0 : Int) ≤ (i : Int) + 1 + (N : Int) := by omega
        have e4' : ¬ ((i : Int) + 1 + (N : Int) < 0) := by omega
        have e5 : (i : Int) + 1 + (N : Int) < (len : Int) + 1 := by omega
        have e6 : ((i : Int) + 1 + (N : Int)).toNat = i + 1 + N := by omega
        go_quiet (fail)
        clear e1 e1' e2 e3 e4 e4' e5 e6
        go_wp2_with fail
        go_meet
        exact ⟨by rw [HU.out], HM3.out.drew _⟩
      ·have hsk : x.skips = false := by unfold B.Ins.skips; simp [e18, e19]
       have hnx : x.next = true := by unfold B.Ins.next; simp [e0, e18]
       have HU : Hid (B.usB ps i x = (!x.isW || B.rdAt ps (i + 1) x.a.toNat)) := B.us_on e0 hsk
       have HBE : Hid (∀ k, B.rdAt ps (i + 1) k = B.behind x i (B.rdAt ps) k) := by show ∀ k, _; intro k; unfold B.behind; rw [hnx, hsk]; simp
       have HROW := Lib.hid (HMD.out.at_.row (j := i + 1) (by omega) (by omega))
       have HTO : Hid (wx.there (X + 1) 0 16) := CellsAt.there HMD.out.out (by omega)
       have HM2 := Lib.hid (HMD.out.store (B.rdAt ps (i + 1)))
       have q0 : (x.op == 0) = false := by simpa using e0
       have q1 : (x.op == 18) = false := by simpa using e18
       have q2 : (x.op == 19) = false := by simpa using e19
       clear d1 c3 e0 e18 e19 hsk hnx
       go_upto_region 15 with (first
        | refine wpList_load_mid (by rfl) 207 _ (by rfl) R ((i + 1) * 16) (by rfl) (regsF (B.rdAt ps (i + 1))).toList _ HROW.out Tryz.underlying207 (by rfl) (by rw [info207]; rfl) ?_
        | refine wpList_store_mid (by rfl) 207 _ _ (by rfl) (X + 1) 0 (regsF (B.rdAt ps (i + 1))) (by rfl) (by rfl) HTO.out (by rw [info207]; rfl) (regsF_ones _) ?_)
       obtain ⟨wy, hwy⟩ : ∃ wy, wx.setCells (X + 1) 0 (regsF (B.rdAt ps (i + 1))).toList = wy := ⟨_, rfl⟩
       have HM3 : Hid (MidAt ps len c R (R + 1) i X (X + 1) x (B.behind x i (B.rdAt ps)) w wy) := by rw [← hwy]; exact HM2.out.congr (fun k _ => HBE.out k)
       rw [hwy]
       clear hwy HM2 HROW HTO HMD
       have c0 := HM3.out.box.c0
       have c1 := HM3.out.box.c1
       have c2 := HM3.out.box.c2
       have c3 := HM3.out.box.c3
       have c4 := HM3.out.box.c4
       rw [HN.out] at c3
       have hcw := written_any x HRT.out wy
       rw [HN.out] at hcw
       have HCW := Lib.hid hcw
       clear hcw
       go_wp2_with fail
       refine HCW.out.mono ?_
       rintro e w3 ⟨rfl, hb3⟩
       have HM4 := Lib.hid (HM3.out.below hb3)
       clear hb3 HM3 HCW c0 c1 c2 c3 c4
       have hrb := B.right_bounds HRT.out
       cases hw : x.isW with
       | true =>
        obtain ⟨A, hA⟩ : ∃ A : Nat, x.a = A := ⟨x.a.toNat, by omega⟩
        have hwr : wrI x = (A : Int) := by unfold wrI; rw [hw, if_pos rfl, hA]
        have A0 : (0 : Int) ≤ (A : Int) := by omega
        have A1 : (A : Int) < 16 := by omega
        have cA := CellsAt.cell HM4.out.out (j := A) (by omega)
        have HU2 : Hid (B.usB ps i x = B.behind x i (B.rdAt ps) A) := by
         show _ = _
         rw [HU.out, hw, hA, ← HBE.out]; simp
        have q5 : decide ((A : Int) < 0) = false := by simp
        rw [hwr]
        clear hw hrb hA hwr
        generalize B.behind x i (B.rdAt ps) A = bb at *
        go_wp2_with fail
        go_meet
        exact ⟨by rw [HU2.out], HM4.out⟩
       | false =>
        have hwr : wrI x = -1 := by unfold wrI; rw [hw]; rfl
        have HU2 : Hid (B.usB ps i x = true) := by show _ = _; rw [HU.out, hw]; rfl
        rw [hwr]
        clear hw hrb hwr
        go_wp2_with fail
        go_meet
        exact ⟨by rw [HU2.out], HM4.out⟩
   case rest =>
    obtain ⟨rfl, hmd⟩ := hcut
    have HMD := Lib.hid hmd
    clear hmd
    go_upto_region 25 with fail
    go_cut [] from 40 to 156 (fun wz => EndAt ps len c R (R + 1) i X (X + 1) x (B.behind x i (B.rdAt ps)) w wz)
    case first =>
     generalize B.behind x i (B.rdAt ps) = g at *
     have HRG := Lib.hid (RegsIn.range HMD.out.out)
     have HD1 := Lib.hid (HMD.out.at_.left (j := i + 1) (by omega) (by omega))
     generalize hu1 : B.leftB ps (i + 1) = u1 at *
     have HU1 := Lib.hid hu1
     clear hu1
     refine wp_region_held_drew (S := fun w' => w'.rangeAt (X + 1) 0 (regsF g).toList ∧ w'.cell? ⟨R + 1, i + 1, none⟩ = some (.int .i64 (u1 : Int))) (by kernel_rfl) ⟨fun j v h => HRG.out j v h, HD1.out⟩ (fun hS0 => ?_)
     refine takeS (i := 0) (d := 126) (v := (.slice (some ⟨R, 0, none⟩) (len + 1) (len + 1))) rfl rfl rfl (by kernel_rfl) (by kernel_rfl) (by kernel_rfl) (fun _ _ _ h => h) (fun w' _ => by go_simp) hS0 ?_
     simp only [Act.put, List.setIfInBounds_toArray, List.set_cons_zero, List.set_cons_succ]
     refine takeS (i := 1) (d := 127) (v := (.int .i64 (i : Int))) rfl rfl rfl (by kernel_rfl) (by kernel_rfl) (by kernel_rfl) (fun _ _ _ h => h) (fun w' _ => by go_simp) hS0 ?_
     simp only [Act.put, List.setIfInBounds_toArray, List.set_cons_zero, List.set_cons_succ]
     refine takeS (i := 2) (d := 128) (v := (.slice (some ⟨R + 1, 0, none⟩) (len + 1) (len + 1))) rfl rfl rfl (by kernel_rfl) (by kernel_rfl) (by kernel_rfl) (fun _ _ _ h => h) (fun w' _ => by go_simp) hS0 ?_
     simp only [Act.put, List.setIfInBounds_toArray, List.set_cons_zero, List.set_cons_succ]
     refine takeS (i := 3) (d := 129) (v := (.int .i64 (i : Int))) rfl rfl rfl (by kernel_rfl) (by kernel_rfl) (by kernel_rfl) (fun _ _ _ h => h) (fun w' _ => by go_simp) hS0 ?_
     simp only [Act.put, List.setIfInBounds_toArray, List.set_cons_zero, List.set_cons_succ]
     refine takeM (i := 4) (d := 130) 207 _ (X + 1) 0 (regsF g) _ rfl rfl rfl rfl (by rfl) Tryz.underlying207 rfl (by rw [info207]; rfl) (by kernel_rfl) (by kernel_rfl) (by kernel_rfl) (fun _ _ _ h => h) (fun w' hw => hw.1) hS0 ?_
     simp only [Act.put, List.setIfInBounds_toArray, List.set_cons_zero, List.set_cons_succ]
     refine takeS (i := 5) (d := 131) (v := (.slice (some ⟨R + 1, 0, none⟩) (len + 1) (len + 1))) rfl rfl rfl (by kernel_rfl) (by kernel_rfl) (by kernel_rfl) (fun _ _ _ h => h) (fun w' _ => by go_simp) hS0 ?_
     simp only [Act.put, List.setIfInBounds_toArray, List.set_cons_zero, List.set_cons_succ]
     refine takeS (i := 6) (d := 132) (v := (.int .i64 (i : Int))) rfl rfl rfl (by kernel_rfl) (by kernel_rfl) (by kernel_rfl) (fun _ _ _ h => h) (fun w' _ => by go_simp) hS0 ?_
     simp only [Act.put, List.setIfInBounds_toArray, List.set_cons_zero, List.set_cons_succ]
     refine takeS (i := 7) (d := 133) (v := (.int .i64 ((i : Int) + 1))) rfl rfl rfl (by kernel_rfl) (by kernel_rfl) (by kernel_rfl) (fun _ _ _ h => h) (fun w' _ => by go_simp) hS0 ?_
     simp only [Act.put, List.setIfInBounds_toArray, List.set_cons_zero, List.set_cons_succ]
     refine takeS (i := 8) (d := 134) (v := (.pointer (some ⟨R + 1, i + 1, none⟩))) rfl rfl rfl (by kernel_rfl) (by kernel_rfl) (by kernel_rfl) (fun _ _ _ h => h) (fun w' _ => by have hn1 : ¬ ((i : Int) + 1 < 0) := (by omega); go_simp) hS0 ?_
     simp only [Act.put, List.setIfInBounds_toArray, List.set_cons_zero, List.set_cons_succ]
     refine takeS (i := 9) (d := 135) (v := (.int .i64 (u1 : Int))) rfl rfl rfl (by kernel_rfl) (by kernel_rfl) (by kernel_rfl) (fun _ _ _ h => h) (fun w' hw => by have hc := hw.2; go_simp) hS0 ?_
     simp only [Act.put, List.setIfInBounds_toArray, List.set_cons_zero, List.set_cons_succ]
     refine takeS (i := 10) (d := 136) (v := (.pointer (some ⟨R, i * 16, none⟩))) rfl rfl rfl (by kernel_rfl) (by kernel_rfl) (by kernel_rfl) (fun _ _ _ h => h) (fun w' _ => by have hn1 : (i : Int) < (len : Int) + 1 := (by omega); go_simp) hS0 ?_
     simp only [Act.put, List.setIfInBounds_toArray, List.set_cons_zero, List.set_cons_succ]
     refine wpAnyH_ready (rs := [11]) (by kernel_rfl) (by simp) ?_
     refine AllReadyH.cons rfl (fun K hK => ?_) AllReadyH.nil
     rw [if_pos (by rfl)]
     have hm1 : MidAt ps len c R (R + 1) i X (X + 1) x g w wc.drew := HMD.out.drew 1
     refine wp_store_mid 207 _ _ (by rfl) R (i * 16) (regsF g) (by rfl) (by rfl) (show _ from CellsAt.there (o := i * 16) (m := 16) hm1.at_.rd (by omega)) (by rw [info207]; rfl) (regsF_ones _) ?_
     have hg1 := grownBy_setCells R (regsF g).toList (i * 16) wc.drew
     have hbx := CellsAt.blk hm1.out
     have hbl := CellsAt.blk hm1.at_.lf
     refine hK.out _ _ ⟨range_grown (RegsIn.range hm1.out) hg1 hbx (Ne.symm hm1.rO), ?_⟩ (fun hS1 => ?_)
     ·have := (hg1.block (R + 1) hbl (by simp))
      exact (cell_of_blk this).trans HD1.out
     clear hK K
     have HE1 : Hid (EndA ps len c R (R + 1) i X (X + 1) x g w (wc.drew.setCells R (i * 16) (regsF g).toList)) := hm1.endA (by omega)
     obtain ⟨wz, hwz⟩ : ∃ wz, wc.drew.setCells R (i * 16) (regsF g).toList = wz := ⟨_, rfl⟩
     rw [hwz] at HE1
     change wpAnyH _ _ _ _ _ _ _ _ (wc.drew.setCells R (i * 16) (regsF g).toList)
     change _ ∧ (wc.drew.setCells R (i * 16) (regsF g).toList).cell? _ = _ at hS1
     rw [hwz] at hS1 ⊢
     clear hwz hm1 hg1 hbx hbl
     refine takeS (i := 12) (d := 137) (v := (.pointer (some ⟨R + 1, i, none⟩))) rfl rfl rfl (by kernel_rfl) (by kernel_rfl) (by kernel_rfl) (fun _ _ _ h => h) (fun w' _ => by have hn1 : (i : Int) < (len : Int) + 1 := (by omega); go_simp) hS1 ?_
     simp only [Act.put, List.setIfInBounds_toArray]
     refine wpAnyH_ready (rs := [13]) (by kernel_rfl) (by simp) ?_
     refine AllReadyH.cons rfl (fun K hK => ?_) AllReadyH.nil
     have cl := CellsAt.cell HE1.out.lf (j := i) (by omega)
     have fl := CellsAt.free HE1.out.lf i
     go_simp
     refine hK.out _ _ ⟨?_, ?_⟩ (fun hS2 => ?_)
     ·exact range_other hS1.1 (Ne.symm HMD.out.lO)
     ·have h := CellsAt.cell (CellsAt.set HE1.out.lf i (.int .i64 (u1 : Int))) (j := i + 1) (by omega)
      simpa [lfF, HU1.out] using h
     clear hK K
     refine wpAnyH_done (by kernel_rfl) ?_ _
     go_wp2_with fail
     go_meet
     exact HE1.out.endAt u1 HU1.out
    case rest =>
     have HE := Lib.hid hcut
     clear hcut HMD
     have cc := CellsAt.cell HE.out.cm (j := i) (by omega)
     have HSY := Lib.hid (B.stay_us HX.out)
     have HRD := Lib.hid (B.rdAt_eq HX.out)
     generalize hg : B.behind x i (B.rdAt ps) = g at *
     cases hu : B.usB ps i x with
     | false =>
      rw [hu] at HSY
      clear hu
      have HN2 : Hid (DropAt ps len c R (R + 1) i w wc) := HE.out.idle (by have := HSY.out; simpa using this) HX.out hg
      clear hg cc HE
      go_wp2_with fail
      go_roundg i
      case measure => omega
      case rel => exact ⟨rfl, by omega, HN2.out⟩
     | true =>
      rw [hu] at HSY
      cases hr : B.reachB ps i with
      | false =>
       rw [hr] at cc HSY
       clear hu hr
       have HN2 : Hid (DropAt ps len c R (R + 1) i w wc) := HE.out.idle (by have := HSY.out; simpa using this) HX.out hg
       clear hg HE
       go_wp2_with fail
       go_roundg i
       case measure => omega
       case rel => exact ⟨rfl, by omega, HN2.out⟩
      | true =>
       rw [hr] at cc HSY
       have c0 := HE.out.box.c0
       have c1 := HE.out.box.c1
       have c2 := HE.out.box.c2
       have c3 := HE.out.box.c3
       have c4 := HE.out.box.c4
       rw [HN.out] at c3
       have HG := Lib.hid hg
       have HRO := Lib.hid (RegsIn.range HE.out.out)
       have hca := ahead_any x HRT.out g wc
       rw [HN.out] at hca
       have HCA := Lib.hid hca
       clear hu hr hg hca
       go_wp2_with (refine wpList_load_mid (by rfl) 207 _ (by rfl) (X + 1) 0 (by rfl) (regsF g).toList _ HRO.out Tryz.underlying207 (by rfl) (by rw [info207]; rfl) ?_)
       refine HCA.out.mono ?_
       rintro e w3 ⟨rfl, hb3⟩
       have HK := Lib.hid (HE.out.kept hb3 (by have := HSY.out; simpa using this) HX.out HG.out)
       have HTR : Hid (w3.there R (i * 16) 16) := CellsAt.there (HE.out.below hb3).1 (by omega)
       have hlf := CellsAt.grown (HE.out.below hb3).2.2.1 (grownBy_setCells R (regsF (aheadF x g)).toList (i * 16) w3) (by simp)
       have cl := CellsAt.cell hlf (j := i) (by omega)
       have fl := CellsAt.free hlf i
       simp only [if_true] at cl
       have HCL := Lib.hid cl
       have HFL := Lib.hid fl
       have hub : B.leftB ps (i + 1) ≤ 16384 := by have := B.leftB_le ps (i + 1); have := HP.out.len; omega
       generalize B.leftB ps (i + 1) = u1 at *
       clear hb3 HCA HRO HE c0 c1 c2 c3 c4 hlf cl fl cc
       go_upto_region 28 with (refine wpList_store_mid (by rfl) 207 _ _ (by rfl) R (i * 16) (regsF (aheadF x g)) (by rfl) (by rfl) HTR.out (by rw [info207]; rfl) (regsF_ones _) ?_)
       obtain ⟨wz, hwz⟩ : ∃ wz, w3.setCells R (i * 16) (regsF (aheadF x g)).toList = wz := ⟨_, rfl⟩
       rw [hwz] at HK HCL HFL
       rw [hwz]
       have cl := HCL.out
       have fl := HFL.out
       clear hwz HCL HFL HTR
       have hw1 : IntKind.i64.wrap ((u1 : Int) + 1) = (u1 : Int) + 1 := IntWalk.i64_in _ (by omega)
       go_wp2_with fail
       go_roundg i
       case measure => omega
       case rel => exact ⟨rfl, by omega, HK.out⟩

end Code
end Go.Proofs.YtmpeipdeablkdaaGreatDoor

namespace Go.Proofs.YtmpeipdeablkdaaGreatDoor
open Go.RowKit

namespace Code

attribute [local go_sem ↓] Go.wp_at_zero Go.wp_at_succ

/-- an error of a program that may not be run is there -/
theorem progEr_shape {ps : List B.Ins} {size slots : Int} (hm : ¬ B.MayRun ps size slots) : (progEr ps size slots).isNil = false := by
 cases h : (progEr ps size slots).isNil with
 | false => rfl
 | true =>
  exfalso
  apply hm
  rw [← B.program_ok]
  unfold progEr erOf at h
  have hr := program_range ps size slots
  generalize hq : B.program ps size slots = r at h hr
  obtain ⟨n, o⟩ := r
  by_cases h0 : n = 0
  ·subst h0
   cases o with
   | none => rfl
   | some i =>
    exfalso
    unfold B.program at hq
    split at hq
    ·simp at hq
    ·split at hq
     ·simp at hq
     ·cases hf : B.firstTouch size slots ps.length 0 ps with
      | some p =>
       obtain ⟨e, j⟩ := p
       rw [hf] at hq
       simp at hq
       exact firstTouch_ne _ _ _ _ hf hq.1
      | none =>
       rw [hf] at hq
       cases hfr : B.firstRead ps with
       | none => rw [hfr] at hq; simp at hq
       | some k => rw [hfr] at hq; simp at hq
  ·simp only [if_neg h0] at h
   cases o <;> simp [Er.isNil] at h

/-- what Drop answers of a program that may not be run -/
def DropNo (ps : List B.Ins) (size slots : Int) (w : World) (e : Ending) (w' : World) : Prop := e = .returned (.tuple #[.slice none 0 0, (progEr ps size slots).val]) ∧ Below w.heap.size w w'

set_option maxRecDepth 100000 in
set_option maxHeartbeats 3200000 in
theorem drop_no (a : Option Addr) (len cap : Nat) (ps : List B.Ins) (size slots : Int) (w : World) (hp : ProgAt w a len ps) (hwf : ∀ y ∈ ps, y.Wf) (ht : Tabs w) (hr : len ≤ 9223372036854775807) (hm : ¬ B.MayRun ps size slots) :
    Calls Tryz.prog 94 #[.slice a len cap, .int .i64 size, .int .i64 slots] w (DropNo ps size slots w) := by
 have HP := Lib.hid hp
 have HWF := Lib.hid hwf
 have HT := Lib.hid ht
 obtain ⟨T, v, hv⟩ := Er.shape _ (progEr_shape hm)
 have HV := Lib.hid hv
 clear hp hwf ht hm hv
 go_enter Tryz.func94, Tryz.ntmps94
 go_wp2_with fail
 refine (program_er a len cap ps size slots _ HP.out HWF.out HT.out hr).mono ?_
 rintro e w1 ⟨rfl, hb1⟩
 have HB1 := Lib.hid hb1
 clear hb1
 rw [HV.out]
 go_wp2_with fail
 go_ret2
 exact ⟨by rw [HV.out]; rfl, HB1.out⟩

set_option maxHeartbeats 1600000 in
theorem sameInstrs_yes (a a' : Option Addr) (len cap len' cap' : Nat) (ps : List B.Ins) (w : World) (hp : ProgAt w a len ps) (hp' : ProgAt w a' len' ps) (hl : len ≤ 9223372036854775807) :
    Calls Tryz.prog 17 #[.slice a len cap, .slice a' len' cap'] w (BoolOut true w) := by
 obtain rfl : len' = len := by rw [hp.len, hp'.len]
 have HP := Lib.hid hp
 have HQ := Lib.hid hp'
 clear hp hp'
 go_enter Tryz.func17, Tryz.ntmps17
 go_wp2_with fail
 go_loopw [5] (fun i wr => ∃ (k : Nat), k ≤ len' ∧ i = .int .i64 k ∧ Below w.heap.size w wr) (fun i _ => len' - (intOf i).toNat)
 case atStart => exact ⟨0, Nat.zero_le _, rfl, Below.refl _ _⟩
 case round =>
  obtain ⟨k, hk, rfl, hb⟩ := hrel
  have HB := Lib.hid hb
  by_cases hlt : k < len'
  ·have hx : ps[k]? = some (ps[k]'(by have := HP.out.len; omega)) := List.getElem?_eq_getElem _
   generalize ps[k]'(by have := HP.out.len; omega) = x at hx
   obtain ⟨b, off, rfl, hbl, hat⟩ := HP.out.at_ k x hx
   obtain ⟨b', off', rfl, hbl', hat'⟩ := HQ.out.at_ k x hx
   obtain ⟨h0, h1, h2, h3, h4⟩ := hat.below hb hbl
   obtain ⟨g0, g1, g2, g3, g4⟩ := hat'.below hb hbl'
   have k0 : (0 : Int) ≤ (k : Int) := by omega
   have k1 : (k : Int) < (len' : Int) := by omega
   clear hx hat hat' hb
   go_wp2_with fail
   go_quiet (fail)
   go_wp2_with fail
   go_roundw
   case rel => exact ⟨k + 1, by omega, by go_num, belowN HB.out _⟩
   case measure => simp [intOf]; omega
  ·obtain rfl : k = len' := by omega
   clear hb
   go_wp2_with fail
   go_ret
   exact ⟨rfl, HB.out⟩

def l0 : List B.Ins := [⟨15, 0, 0, 0, 0⟩, ⟨2, 1, 0, 0, 0⟩, ⟨16, 0, 0, 0, 0⟩]
def l1 : List B.Ins := [⟨15, 0, 0, 0, 0⟩, ⟨16, 0, 0, 0, 0⟩]
theorem l0_wf : ∀ y ∈ l0, y.Wf := by
 intro y hy
 simp [l0] at hy
 rcases hy with rfl | rfl | rfl <;> exact ⟨by decide, by decide, by decide, by decide, by decide⟩
theorem l0_run : B.program l0 2 1 = (0, none) := by decide +kernel
theorem l0_drop : B.drop l0 = l1 := by decide +kernel

/-- each statement's first question is answered by yes -/
theorem works16_any (w : World) (h : Tabs w) : Calls Tryz.prog 53 #[] w (BoolOut true w) := by
 have HT := Lib.hid h
 clear h
 go_enter Tryz.func53, Tryz.ntmps53
 go_wp2_with fail
 have hp := progAt_new l0 #[.int .i64 15, .int .i64 0, .int .i64 0, .int .i64 0, .int .u64 0, .int .i64 2, .int .i64 1, .int .i64 0, .int .i64 0, .int .u64 0, .int .i64 16, .int .i64 0, .int .i64 0, .int .i64 0, .int .u64 0] 3 24 w rfl rfl
 refine (drop_yes _ _ _ l0 2 1 _ hp l0_wf (HT.out.alloc _) ((B.program_ok _ _ _).1 l0_run)).mono ?_
 rintro e w1 ⟨ao, cp, rfl, hown, hb1⟩
 rw [l0_drop] at hown ⊢
 have HO := Lib.hid hown
 have HB1 := Lib.hid (((Below.refl w.heap.size w).alloc (Nat.le_refl _) (.cells #[.int .i64 15, .int .i64 0, .int .i64 0, .int .i64 0, .int .u64 0, .int .i64 2, .int .i64 1, .int .i64 0, .int .i64 0, .int .u64 0, .int .i64 16, .int .i64 0, .int .i64 0, .int .i64 0, .int .u64 0] 24)).trans (hb1.mono (by simp)))
 have hs1 := HB1.out.size
 clear hp hown hb1
 go_wp2_with fail
 have hp2 := progAt_new l1 #[.int .i64 15, .int .i64 0, .int .i64 0, .int .i64 0, .int .u64 0, .int .i64 16, .int .i64 0, .int .i64 0, .int .i64 0, .int .u64 0] 2 24 w1 rfl rfl
 refine (sameInstrs_yes _ _ _ _ _ _ l1 _ (HO.out.progAt.below ((Below.refl _ _).alloc (Nat.le_refl _) _) (Nat.le_refl _)) hp2 (by decide)).mono ?_
 rintro e w2 ⟨rfl, hb2⟩
 have HB2 := Lib.hid ((HB1.out.alloc hs1 (.cells #[.int .i64 15, .int .i64 0, .int .i64 0, .int .i64 0, .int .u64 0, .int .i64 16, .int .i64 0, .int .i64 0, .int .i64 0, .int .u64 0] 24)).trans (hb2.mono (by simp; omega)))
 clear hp2 hb2
 go_wp2_with fail
 go_ret
 exact ⟨rfl, HB2.out⟩

end Code
end Go.Proofs.YtmpeipdeablkdaaGreatDoor
