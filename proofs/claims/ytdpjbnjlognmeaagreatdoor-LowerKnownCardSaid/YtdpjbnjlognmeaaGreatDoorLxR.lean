/- Package check: the signals that are active. -/
/- Package law15: a value for each signal of a message. -/
/- Package law15: a payload of a message's size. -/
/- Package law15: the multiplexor's value. -/
/- vm.Run of a program that may be run, both endings at once: what is told, in lists that are new. -/
/- Package law15: what the pack program of a message comes to. -/
import Derived.Test.YtdpjbnjlognmeaaGreatDoorLwE
import Derived.Test.YtdpjbnjlognmeaaGreatDoorVmP
import Derived.Test.YtdpjbnjlognmeaaGreatDoorVmQ
import Derived.Test.YtdpjbnjlognmeaaGreatDoorLxQ
namespace Go.Proofs.YtdpjbnjlognmeaaGreatDoor
open Go.RowKit

namespace B

/-- the numbers of the signals that are there at a raw value, from a number on -/
def actI (v : Int) : Nat → List Sig → List Nat
 | _, [] => []
 | i, s :: r => (if s.role ≠ 2 ∨ s.branch = v then [i] else []) ++ actI v (i + 1) r

theorem actI_append (v : Int) (l r : List Sig) : ∀ i, actI v i (l ++ r) = actI v i l ++ actI v (i + l.length) r := by
 induction l with
 | nil => intro i; rfl
 | cons s l ih =>
  intro i
  show _ ++ actI v (i + 1) (l ++ r) = (_ ++ actI v (i + 1) l) ++ _
  rw [ih (i + 1), List.append_assoc, List.length_cons, Nat.add_right_comm, Nat.add_assoc i]

theorem actI_more (v : Int) (l : List Sig) (k : Nat) (s : Sig) (h : l[k]? = some s) : actI v 0 (l.take (k + 1)) = actI v 0 (l.take k) ++ (if s.role ≠ 2 ∨ s.branch = v then [k] else []) := by
 rw [List.take_add_one, h]
 show actI v 0 (l.take k ++ [s]) = _
 rw [actI_append]
 have hlt := (List.getElem?_eq_some_iff.1 h).1
 rw [List.length_take, Nat.min_eq_left (by omega), Nat.zero_add]
 show _ ++ (_ ++ []) = _
 rw [List.append_nil]

theorem actI_len (v : Int) (l : List Sig) : ∀ i, (actI v i l).length ≤ l.length := by
 induction l with
 | nil => intro i; exact Nat.le_refl _
 | cons s l ih =>
  intro i
  show ((if s.role ≠ 2 ∨ s.branch = v then [i] else []) ++ actI v (i + 1) l).length ≤ _
  rw [List.length_append, List.length_cons]
  have := ih (i + 1)
  split
  ·simp; omega
  ·simp; omega

end B

namespace Code

attribute [local go_sem ↓] Go.wp_at_zero Go.wp_at_succ

/-- numbers as a list's elements -/
def actV (l : List Nat) : List Value := l.map fun (i : Nat) => .int .i64 (i : Int)

/-- a list of numbers of the call's own -/
def NatsOut (l : List Nat) (w : World) (e : Ending) (w' : World) : Prop := ∃ ao cap, e = .returned (.slice ao l.length cap) ∧ One.OwnV 3 w' w.heap.size ao l.length cap (actV l) ∧ Below w.heap.size w w'

set_option maxRecDepth 100000 in
set_option maxHeartbeats 6400000 in
theorem active_any (m : B.Msg) (v : Int) (sa : Option Addr) (n cap : Nat) (w : World) (hs : SigsAt w sa n m.sigs) (hn64 : n ≤ 1000000) :
    Calls Tryz.prog 38 #[.agg (msgC m (.slice sa n cap)), .int .u64 v] w (NatsOut (B.actI v 0 m.sigs) w) := by
 have HS := Lib.hid hs
 have HN := Lib.hid hs.len
 have hrow := RC.new (msgC m (.slice sa n cap)) 27 w (n := 8) rfl rfl
 have hbel : Below w.heap.size w (w.alloc (.cells (msgC m (.slice sa n cap)) 27)) := (Below.refl _ _).alloc (Nat.le_refl _) _
 obtain ⟨w1, hw1⟩ : ∃ w1, w.alloc (.cells (msgC m (.slice sa n cap)) 27) = w1 := ⟨_, rfl⟩
 rw [hw1] at hrow hbel
 have k7 : w1.cell? ⟨w.heap.size, 7, none⟩ = some (.slice sa n cap) := hrow.cell (j := 7) rfl
 have HB := Lib.hid hbel
 clear hs hrow hbel
 go_enter Tryz.func38, Tryz.ntmps38
 go_upto_region 1 with fail
 try rw [hw1]
 clear hw1
 go_wp2_with fail
 clear k7
 go_loopw [5, 11] (fun l i wr => ∃ (k N c : Nat) (ao : Option Addr), k ≤ n ∧ i = .int .i64 (k : Int) ∧ l = .slice ao N c ∧ Below w.heap.size w wr ∧ Hid (N = (B.actI v 0 (m.sigs.take k)).length ∧ One.OwnV 3 wr w.heap.size ao N c (actV (B.actI v 0 (m.sigs.take k))))) (fun _ i _ => n - (intOf i).toNat)
 case atStart => exact ⟨0, 0, 0, none, by omega, rfl, rfl, HB.out, Lib.hid ⟨rfl, One.OwnV.nil _ _ _⟩⟩
 case round =>
  obtain ⟨k, N, c, ao, hk, rfl, rfl, hbr, HOW⟩ := hrel
  have HBR := Lib.hid hbr
  clear HB hbr
  by_cases hlt : k < n
  ·have hx : m.sigs[k]? = some (m.sigs[k]'(by have := HN.out; omega)) := List.getElem?_eq_getElem _
   generalize m.sigs[k]'(by have := HN.out; omega) = s at hx
   obtain ⟨b1, o1, rfl, hl1, a1, n1, c1, hrow, hto, hn1⟩ := HS.out.at_ k s hx
   have hrr := cells_below hrow HBR.out hl1
   have HX := Lib.hid (B.actI_more v m.sigs k s hx)
   have hN : N ≤ 1000000 := by
    rw [HOW.out.1]
    have := B.actI_len v (m.sigs.take k) 0
    rw [List.length_take] at this
    omega
   have q0 : (0 : Int) ≤ (k : Int) := by omega
   have q1 : (k : Int) < n := by omega
   clear hx hrow hto hl1
   go_upto_region 5 with (first
    | refine wpList_load_mid (by rfl) 40 _ (by rfl) b1 (o1 + k * 19) (by rfl) (sigC s (.slice a1 n1 c1)).toList _ hrr Tryz.underlying40 (by rfl) (by rw [infoN40]; rfl) ?_
    | (refine wpList_store_mid (by rfl) 40 _ _ (by rfl) wr.heap.size 0 (sigC s (.slice a1 n1 c1)) (by rfl) (by rfl) (there_alloc _ _ _ (by rfl)) (by rw [infoN40]; rfl) (ones_sig _ _ _ _) ?_; generalize hw4 : World.setCells _ _ _ _ = w4))
   obtain ⟨X, hX⟩ : ∃ X, wr.heap.size = X := ⟨_, rfl⟩
   have hb4 : Below wr.heap.size wr w4 := by
    rw [← hw4]
    exact ((Below.refl _ _).alloc (Nat.le_refl _) _).grown (grownBy_setCells _ _ _ _) (by simp) (fun k hk => by cases hk; exact Nat.le_refl _)
   have hrow4 : RC w4 X 40 19 (sigC s (.slice a1 n1 c1)) := by rw [← hw4, ← hX]; exact RC.over _ _ _ _ (by rfl) rfl
   have HBW4 := Lib.hid (HBR.out.trans (hb4.mono HBR.out.size))
   have HOW4 := Lib.hid (HOW.out.2.kept hb4)
   have HLN := Lib.hid HOW.out.1
   have j3 : w4.cell? ⟨X, 3, none⟩ = some (.int .i64 s.role) := hrow4.cell (j := 3) rfl
   have j4 : w4.cell? ⟨X, 4, none⟩ = some (.int .u64 s.branch) := hrow4.cell (j := 4) rfl
   rw [hX]
   clear hw4 hb4 hrow4 hrr hX HOW
   by_cases hr : s.role = 2 ∧ s.branch ≠ v
   ·have e1 : (s.role == 2) = true := by simp [hr.1]
    have e1' : (s.role != 2) = false := by simp [hr.1]
    have e2 : (s.branch == v) = false := by simp [hr.2]
    have hy : (if s.role ≠ 2 ∨ s.branch = v then [k] else []) = ([] : List Nat) := if_neg (fun h => h.elim (fun h => h hr.1) (fun h => hr.2 h))
    have HY := Lib.hid hy
    clear hy
    clear hr
    go_wp2_with fail
    go_roundw
    case rel =>
     refine ⟨k + 1, N, c, ao, by omega, by go_num, rfl, HBW4.out, Lib.hid ?_⟩
     rw [HX.out, HY.out, List.append_nil]
     exact ⟨HLN.out, HOW4.out⟩
    case measure => simp [intOf]; omega
   ·have hor : (s.role == 2) = false ∨ (s.role == 2) = true ∧ (s.branch == v) = true := by
      by_cases h : s.role = 2
      ·refine .inr ⟨by simp [h], ?_⟩
       by_cases h2 : s.branch = v
       ·simp [h2]
       ·exact absurd ⟨h, h2⟩ hr
      ·exact .inl (by simp [h])
    have hy : (if s.role ≠ 2 ∨ s.branch = v then [k] else []) = [k] := if_pos (by
     by_cases h : s.role = 2
     ·by_cases h2 : s.branch = v
      ·exact .inr h2
      ·exact absurd ⟨h, h2⟩ hr
     ·exact .inl h)
    have HY := Lib.hid hy
    clear hy
    clear hr
    rcases hor with e1 | ⟨e1, e2⟩
    case' inl => have e1' : (s.role != 2) = true := by simp [bne, e1]
    case' inr => have e1' : (s.role != 2) = false := by simp [bne, e1]
    all_goals
     go_upto_region 6 with fail
     go_wp2_with (at_builtin; refine One.app_one Tryz.underlying61 infoI3 (by rfl) rfl _ _ rfl w.heap.size rfl HOW4.out (by rfl) rfl (by omega) (by omega) HBW4.out.size ?_; intro ao5 cap5 w5 hown5 hkeep5 hwh5 hb5)
     go_roundw
     case rel =>
      refine ⟨k + 1, N + 1, cap5, ao5, by omega, by go_num, rfl, HBW4.out.trans hb5, Lib.hid ?_⟩
      rw [HX.out, HY.out]
      refine ⟨by rw [List.length_append, ← HLN.out]; rfl, ?_⟩
      unfold actV at hown5 ⊢
      rw [List.map_append]
      exact hown5
     case measure => simp [intOf]; omega
  ·obtain rfl : n = k := by omega
   have hps : m.sigs.take n = m.sigs := List.take_of_length_le (by rw [HN.out]; exact Nat.le_refl _)
   rw [hps] at HOW
   go_wp2_with fail
   go_ret
   refine ⟨ao, c, by rw [← HOW.out.1]; rfl, ?_, HBR.out⟩
   rw [← HOW.out.1]
   exact HOW.out.2

end Code
end Go.Proofs.YtdpjbnjlognmeaaGreatDoor

namespace Go.Proofs.YtdpjbnjlognmeaaGreatDoor
open Go.RowKit

namespace Code

attribute [local go_sem ↓] Go.wp_at_zero Go.wp_at_succ

theorem infoSl : (Tryz.prog.info? 35).map (fun i => (i.zero, i.size, i.bytes)) = some (some (.int .u64 0), 1, 8) := by kernel_rfl

/-- the first of a list, and noughts behind it -/
def slotsV (vs : List Nat) (k : Nat) : List Value := (List.range k).map fun i => u64V (vs.getD i 0)

theorem slotsV_succ (vs : List Nat) (k : Nat) : slotsV vs (k + 1) = slotsV vs k ++ [u64V (vs.getD k 0)] := by
 unfold slotsV
 rw [List.range_succ, List.map_append]
 rfl

/-- a list of words of the call's own -/
def SlotsOut (n : Nat) (vs : List Value) (w : World) (e : Ending) (w' : World) : Prop := ∃ ao cap, e = .returned (.slice ao n cap) ∧ One.OwnV 35 w' w.heap.size ao n cap vs ∧ Below w.heap.size w w'

set_option maxRecDepth 100000 in
set_option maxHeartbeats 6400000 in
theorem slots_any (m : B.Msg) (sa va : Option Addr) (n cap vn vc : Nat) (vs : List Nat) (w : World) (hn64 : n ≤ 64) (hv : ListAt w va vn (vs.map u64V)) (hvn : vn ≤ 9223372036854775807) :
    Calls Tryz.prog 10 #[.agg (msgC m (.slice sa n cap)), .slice va vn vc] w (SlotsOut n (slotsV vs n) w) := by
 have hrow := RC.new (msgC m (.slice sa n cap)) 27 w (n := 8) rfl rfl
 have hbel : Below w.heap.size w (w.alloc (.cells (msgC m (.slice sa n cap)) 27)) := (Below.refl _ _).alloc (Nat.le_refl _) _
 obtain ⟨w1, hw1⟩ : ∃ w1, w.alloc (.cells (msgC m (.slice sa n cap)) 27) = w1 := ⟨_, rfl⟩
 rw [hw1] at hrow hbel
 have HV := Lib.hid hv
 have HVL := Lib.hid hv.len
 have HB := Lib.hid hbel
 have HROW := Lib.hid hrow
 clear hv hrow hbel
 go_enter Tryz.func10, Tryz.ntmps10
 go_upto_region 1 with fail
 try rw [hw1]
 clear hw1
 go_wp2_with fail
 go_loopw [5, 6] (fun l i wr => ∃ (k c : Nat) (ao : Option Addr), k ≤ n ∧ i = .int .i64 (k : Int) ∧ l = .slice ao k c ∧ Below w.heap.size w wr ∧ Hid (RC wr w.heap.size 27 8 (msgC m (.slice sa n cap)) ∧ One.OwnV 35 wr (w.heap.size + 1) ao k c (slotsV vs k))) (fun _ i _ => n - (intOf i).toNat)
 case atStart => exact ⟨0, 0, none, by omega, rfl, rfl, HB.out, Lib.hid ⟨HROW.out, One.OwnV.nil _ _ _⟩⟩
 case round =>
  obtain ⟨k, c, ao, hk, rfl, rfl, hbr, HOW⟩ := hrel
  have HBR := Lib.hid hbr
  have k7 : wr.cell? ⟨w.heap.size, 7, none⟩ = some (.slice sa n cap) := HOW.out.1.cell (j := 7) rfl
  clear HB hbr HROW
  by_cases hlt : k < n
  ·have e1 : ((k : Int) < n) = True := by simp; omega
   have q0 : (0 : Int) ≤ (k : Int) := by omega
   have hz : w.heap.size + 1 ≤ wr.heap.size := HOW.out.1.blk
   have HX := Lib.hid (slotsV_succ vs k)
   obtain ⟨x, hx⟩ : ∃ x, vs.getD k 0 = x := ⟨_, rfl⟩
   rw [hx] at HX
   have HXX := Lib.hid hx
   clear hx
   by_cases hkv : k < vn
   case' pos =>
    have q1 : (k : Int) < vn := by omega
    have e2 : ((k : Int) < vn) = True := by simp; omega
    have hvk : (vs.map u64V)[k]? = some (u64V x) := by
     have h1 : k < vs.length := by have := HVL.out; rw [List.length_map] at this; omega
     rw [List.getElem?_map, List.getElem?_eq_getElem h1, ← HXX.out]
     simp [List.getD, List.getElem?_eq_getElem h1]
    obtain ⟨b1, o1, rfl, hlt1, hc1⟩ := (HV.out.below HBR.out (Nat.le_refl _)).at_ k _ hvk
    unfold u64V at hc1
    clear hvk hlt1
   case' neg =>
    have hx0 : x = 0 := by
     have h1 : ¬ k < vs.length := by have := HVL.out; rw [List.length_map] at this; omega
     rw [← HXX.out]
     simp [List.getD, List.getElem?_eq_none (Nat.le_of_not_lt h1)]
    subst hx0
    have e2 : ((k : Int) < vn) = False := by simp; omega
   all_goals
    go_wp2_with (at_builtin; refine One.app_one Tryz.underlying29 infoSl (by rfl) rfl _ _ rfl (w.heap.size + 1) rfl HOW.out.2 (by rfl) rfl (by omega) (by omega) hz ?_; intro ao5 cap5 w5 hown5 hkeep5 hwh5 hb5)
    go_roundw
    case rel =>
     have hbb : Below w.heap.size w w5 := HBR.out.trans (hb5.mono (Nat.le_succ _))
     refine ⟨k + 1, cap5, ao5, by omega, by go_num, rfl, hbb, Lib.hid ⟨RC.of HOW.out.1 (hb5.block _ (Nat.lt_succ_self _)), ?_⟩⟩
     rw [HX.out]
     exact hown5
    case measure => simp [intOf]; omega
  ·obtain rfl : n = k := by omega
   have e1 : ((n : Int) < n) = False := by simp
   go_wp2_with fail
   go_ret
   exact ⟨ao, c, rfl, HOW.out.2.weaken (Nat.le_succ _), HBR.out⟩

end Code
end Go.Proofs.YtdpjbnjlognmeaaGreatDoor

namespace Go.Proofs.YtdpjbnjlognmeaaGreatDoor
open Go.RowKit

namespace Code

attribute [local go_sem ↓] Go.wp_at_zero Go.wp_at_succ

theorem infoSz : (Tryz.prog.info? 5).map (fun i => (i.zero, i.size, i.bytes)) = some (some (.int .u8 0), 1, 1) := by kernel_rfl

/-- the first of a payload, and noughts behind it -/
def sizedV (vs : List Nat) (k : Nat) : List Value := (List.range k).map fun i => u8V (vs.getD i 0)

theorem sizedV_succ (vs : List Nat) (k : Nat) : sizedV vs (k + 1) = sizedV vs k ++ [u8V (vs.getD k 0)] := by
 unfold sizedV
 rw [List.range_succ, List.map_append]
 rfl

/-- a payload of the call's own -/
def SizedOut (n : Nat) (vs : List Value) (w : World) (e : Ending) (w' : World) : Prop := ∃ ao cap, e = .returned (.slice ao n cap) ∧ One.OwnV 5 w' w.heap.size ao n cap vs ∧ Below w.heap.size w w'

set_option maxRecDepth 100000 in
set_option maxHeartbeats 6400000 in
theorem sized_any (m : B.Msg) (tv : Value) (va : Option Addr) (n vn vc : Nat) (vs : List Nat) (w : World) (hn64 : n ≤ 64) (hsize : m.size = (n : Int)) (hv : ListAt w va vn (vs.map u8V)) (hvn : vn ≤ 9223372036854775807) :
    Calls Tryz.prog 12 #[.agg (msgC m tv), .slice va vn vc] w (SizedOut n (sizedV vs n) w) := by
 have hrow := RC.new (msgC m tv) 27 w (n := 8) rfl rfl
 have hbel : Below w.heap.size w (w.alloc (.cells (msgC m tv) 27)) := (Below.refl _ _).alloc (Nat.le_refl _) _
 obtain ⟨w1, hw1⟩ : ∃ w1, w.alloc (.cells (msgC m tv) 27) = w1 := ⟨_, rfl⟩
 rw [hw1] at hrow hbel
 have HV := Lib.hid hv
 have HSI := Lib.hid hsize
 have HVL := Lib.hid hv.len
 have HB := Lib.hid hbel
 have HROW := Lib.hid hrow
 clear hv hrow hbel hsize
 go_enter Tryz.func12, Tryz.ntmps12
 go_upto_region 1 with fail
 try rw [hw1]
 clear hw1
 go_wp2_with fail
 go_loopw [5, 6] (fun l i wr => ∃ (k c : Nat) (ao : Option Addr), k ≤ n ∧ i = .int .i64 (k : Int) ∧ l = .slice ao k c ∧ Below w.heap.size w wr ∧ Hid (RC wr w.heap.size 27 8 (msgC m tv) ∧ One.OwnV 5 wr (w.heap.size + 1) ao k c (sizedV vs k))) (fun _ i _ => n - (intOf i).toNat)
 case atStart => exact ⟨0, 0, none, by omega, rfl, rfl, HB.out, Lib.hid ⟨HROW.out, One.OwnV.nil _ _ _⟩⟩
 case round =>
  obtain ⟨k, c, ao, hk, rfl, rfl, hbr, HOW⟩ := hrel
  have HBR := Lib.hid hbr
  have k5 : wr.cell? ⟨w.heap.size, 5, none⟩ = some (.int .i64 (n : Int)) := by rw [← HSI.out]; exact HOW.out.1.cell (j := 5) rfl
  clear HB hbr HROW
  by_cases hlt : k < n
  ·have e1 : ((k : Int) < n) = True := by simp; omega
   have q0 : (0 : Int) ≤ (k : Int) := by omega
   have hz : w.heap.size + 1 ≤ wr.heap.size := HOW.out.1.blk
   have HX := Lib.hid (sizedV_succ vs k)
   obtain ⟨x, hx⟩ : ∃ x, vs.getD k 0 = x := ⟨_, rfl⟩
   rw [hx] at HX
   have HXX := Lib.hid hx
   clear hx
   by_cases hkv : k < vn
   case' pos =>
    have q1 : (k : Int) < vn := by omega
    have e2 : ((k : Int) < vn) = True := by simp; omega
    have hvk : (vs.map u8V)[k]? = some (u8V x) := by
     have h1 : k < vs.length := by have := HVL.out; rw [List.length_map] at this; omega
     rw [List.getElem?_map, List.getElem?_eq_getElem h1, ← HXX.out]
     simp [List.getD, List.getElem?_eq_getElem h1]
    obtain ⟨b1, o1, rfl, hlt1, hc1⟩ := (HV.out.below HBR.out (Nat.le_refl _)).at_ k _ hvk
    unfold u8V at hc1
    clear hvk hlt1
   case' neg =>
    have hx0 : x = 0 := by
     have h1 : ¬ k < vs.length := by have := HVL.out; rw [List.length_map] at this; omega
     rw [← HXX.out]
     simp [List.getD, List.getElem?_eq_none (Nat.le_of_not_lt h1)]
    subst hx0
    have e2 : ((k : Int) < vn) = False := by simp; omega
   all_goals
    go_wp2_with (at_builtin; refine One.app_one Tryz.underlying28 infoSz (by rfl) rfl _ _ rfl (w.heap.size + 1) rfl HOW.out.2 (by rfl) rfl (by omega) (by omega) hz ?_; intro ao5 cap5 w5 hown5 hkeep5 hwh5 hb5)
    go_roundw
    case rel =>
     have hbb : Below w.heap.size w w5 := HBR.out.trans (hb5.mono (Nat.le_succ _))
     refine ⟨k + 1, cap5, ao5, by omega, by go_num, rfl, hbb, Lib.hid ⟨RC.of HOW.out.1 (hb5.block _ (Nat.lt_succ_self _)), ?_⟩⟩
     rw [HX.out]
     exact hown5
    case measure => simp [intOf]; omega
  ·obtain rfl : n = k := by omega
   have e1 : ((n : Int) < n) = False := by simp
   go_wp2_with fail
   go_ret
   exact ⟨ao, c, rfl, HOW.out.2.weaken (Nat.le_succ _), HBR.out⟩

end Code
end Go.Proofs.YtdpjbnjlognmeaaGreatDoor

namespace Go.Proofs.YtdpjbnjlognmeaaGreatDoor
open Go.RowKit

namespace Code

attribute [local go_sem ↓] Go.wp_at_zero Go.wp_at_succ

theorem muxV_at {m : B.Msg} {k : Nat} (vs : List Nat) (h : B.muxZ m.sigs = (k : Int)) : m.muxV vs = vs.getD k 0 := by
 unfold B.muxZ at h
 unfold B.Msg.muxV
 cases hm : B.muxI m.sigs with
 | none => rw [hm] at h; exact absurd h (by show ¬ (-1 : Int) = _; omega)
 | some i =>
  rw [hm] at h
  have : i = k := by have h' : (i : Int) = (k : Int) := h; omega
  rw [this]
theorem muxV_no {m : B.Msg} (vs : List Nat) (h : B.muxZ m.sigs = -1) : m.muxV vs = 0 := by
 unfold B.muxZ at h
 unfold B.Msg.muxV
 cases hm : B.muxI m.sigs with
 | none => rfl
 | some i => rw [hm] at h; exact absurd h (by show ¬ (i : Int) = _; omega)

set_option maxRecDepth 100000 in
set_option maxHeartbeats 6400000 in
theorem value_any (m : B.Msg) (sa va : Option Addr) (n cap vn vc : Nat) (vs : List Nat) (w : World) (hs : SigsAt w sa n m.sigs) (hn64 : n ≤ 64) (hv : ListAt w va vn (vs.map u64V)) (hvn : vn = n) :
    Calls Tryz.prog 17 #[.agg (msgC m (.slice sa n cap)), .slice va vn vc] w (fun e w' => e = .returned (.int .u64 (m.muxV vs : Int)) ∧ Below w.heap.size w w') := by
 have HS := Lib.hid hs
 have HN := Lib.hid hs.len
 have hrow := RC.new (msgC m (.slice sa n cap)) 27 w (n := 8) rfl rfl
 have hbel : Below w.heap.size w (w.alloc (.cells (msgC m (.slice sa n cap)) 27)) := (Below.refl _ _).alloc (Nat.le_refl _) _
 obtain ⟨w1, hw1⟩ : ∃ w1, w.alloc (.cells (msgC m (.slice sa n cap)) 27) = w1 := ⟨_, rfl⟩
 rw [hw1] at hrow hbel
 have HV := Lib.hid hv
 have HVL := Lib.hid hv.len
 have HB := Lib.hid hbel
 have HROW := Lib.hid hrow
 clear hv hrow hbel hs
 go_enter Tryz.func17, Tryz.ntmps17
 go_upto_region 1 with fail
 try rw [hw1]
 clear hw1
 go_wp2_with fail
 go_loopw [5] (fun i wr => ∃ k : Nat, k ≤ n ∧ i = .int .i64 k ∧ Below w.heap.size w wr ∧ Hid (RC wr w.heap.size 27 8 (msgC m (.slice sa n cap))) ∧ Hid (∀ i t, i < k → m.sigs[i]? = some t → t.role ≠ 1)) (fun i _ => n - (intOf i).toNat)
 case atStart => exact ⟨0, by omega, rfl, HB.out, Lib.hid HROW.out, Lib.hid (fun i t h => absurd h (by omega))⟩
 case round =>
  obtain ⟨k, hk, rfl, hbr, HRW, HNO⟩ := hrel
  have HBR := Lib.hid hbr
  have k7 : wr.cell? ⟨w.heap.size, 7, none⟩ = some (.slice sa n cap) := HRW.out.cell (j := 7) rfl
  clear HB hbr HROW
  by_cases hlt : k < n
  ·have hx : m.sigs[k]? = some (m.sigs[k]'(by have := HN.out; omega)) := List.getElem?_eq_getElem _
   generalize m.sigs[k]'(by have := HN.out; omega) = s at hx
   obtain ⟨b1, o1, rfl, hl1, a1, n1, c1, hrow, hto, hn1⟩ := HS.out.at_ k s hx
   have hrr := cells_below hrow HBR.out hl1
   have j3 : wr.cell? ⟨b1, o1 + k * 19 + 3, none⟩ = some (.int .i64 s.role) := hrr 3 _ rfl
   have HX := Lib.hid hx
   have q0 : (0 : Int) ≤ (k : Int) := by omega
   have q1 : (k : Int) < n := by omega
   have e0 : ((k : Int) < n) = True := by simp; omega
   clear hx hrow hto hl1 hrr
   by_cases hr : s.role = 1
   ·have e1 : (s.role == 1) = true := by simp [hr]
    have HE := Lib.hid (muxV_at vs (mux_at HX.out hr HNO.out))
    obtain ⟨x, hxx⟩ : ∃ x, vs.getD k 0 = x := ⟨_, rfl⟩
    have hvk : (vs.map u64V)[k]? = some (u64V x) := by
     have h1 : k < vs.length := by have := HVL.out; rw [List.length_map] at this; omega
     rw [List.getElem?_map, List.getElem?_eq_getElem h1, ← hxx]
     simp [List.getD, List.getElem?_eq_getElem h1]
    obtain ⟨b2, o2, rfl, hlt2, hc2⟩ := (HV.out.below HBR.out (Nat.le_refl _)).at_ k _ hvk
    unfold u64V at hc2
    have HXX := Lib.hid hxx
    subst hvn
    clear hr hvk hlt2 hxx
    go_wp2_with fail
    go_ret
    exact ⟨by rw [HE.out, HXX.out]; rfl, HBR.out⟩
   ·have e1 : (s.role == 1) = false := by simp [hr]
    have HR := Lib.hid hr
    clear hr
    go_wp2_with fail
    go_roundw
    case rel =>
     refine ⟨k + 1, by omega, by go_num, HBR.out, HRW, Lib.hid (fun i t hi ht => ?_)⟩
     by_cases e : i = k
     ·rw [e, HX.out] at ht
      cases ht
      exact HR.out
     ·exact HNO.out i t (by omega) ht
    case measure => simp [intOf]; omega
  ·obtain rfl : n = k := by omega
   have HE := Lib.hid (muxV_no vs (mux_no (fun i t hi ht => HNO.out i t (by rw [HN.out]; exact hi) ht)))
   have e0 : ((n : Int) < n) = False := by simp
   go_wp2_with fail
   go_ret
   exact ⟨by rw [HE.out]; rfl, HBR.out⟩

end Code
end Go.Proofs.YtdpjbnjlognmeaaGreatDoor

namespace Go.Proofs.YtdpjbnjlognmeaaGreatDoor
open Go.RowKit

namespace Code

/-- what a run tells, in rows of the call's own -/
def RunUni (r : B.Out) (w : World) (e : Ending) (w' : World) : Prop :=
 ∃ a1 c1 a2 c2 a3 c3, e = .returned (.tuple #[.agg #[.bool (fl r), .int .i64 (slotOf r), .slice a1 (payL r).length c1, .slice a2 (outL r).length c2, .slice a3 (hasL r).length c3, .int .i64 (r.steps : Int)], .nilIface]) ∧
  One.OwnV 5 w' w.heap.size a1 (payL r).length c1 ((payL r).map u8V) ∧ One.OwnV 35 w' w.heap.size a2 (outL r).length c2 ((outL r).map u64V) ∧ One.OwnV 4 w' w.heap.size a3 (hasL r).length c3 ((hasL r).map Value.bool) ∧ Below w.heap.size w w'

theorem run_uni (a pa ia : Option Addr) (len cap pn pc im ic : Nat) (ps : List B.Ins) (pay inp : List Nat) (w : World) (hp : ProgAt w a len ps) (hwf : ∀ y ∈ ps, y.Wf) (ht : Tabs w) (hr : len ≤ 9223372036854775807) (hm : B.MayRun ps pn im)
    (hpay : ListAt w pa pn (pay.map u8V)) (hinp : ListAt w ia im (inp.map u64V)) (hby : B.Bytes pay) (hwi : B.Words inp) :
    Calls Tryz.prog 36 #[.slice a len cap, .slice pa pn pc, .slice ia im ic] w (RunUni (B.run ps inp 0 (B.start pay im)) w) := by
 refine (run_yes a pa ia len cap pn pc im ic ps pay inp w hp hwf ht hr hm hpay hinp hby hwi).mono ?_
 generalize B.run ps inp 0 (B.start pay im) = r
 rintro e w' ⟨v, rfl, hv, hb⟩
 rcases hv with ⟨k, hk, rfl⟩ | ⟨h0, hst, pv, ov, hv, rfl, h1, h2, h3⟩
 ·have hf : r.failed.isSome = true := by rw [hk]; rfl
  refine ⟨none, 0, none, 0, none, 0, ?_, ?_, ?_, ?_, hb⟩
  ·unfold fl slotOf payL outL hasL
   simp only [hk]
   rfl
  ·unfold payL; rw [if_pos hf]; exact One.OwnV.nil _ _ _
  ·unfold outL; rw [if_pos hf]; exact One.OwnV.nil _ _ _
  ·unfold hasL; rw [if_pos hf]; exact One.OwnV.nil _ _ _
 ·have hf : ¬ r.failed.isSome = true := by rw [h0]; decide
  obtain ⟨a1, c1, rfl⟩ := own_form h1
  obtain ⟨a2, c2, rfl⟩ := own_form h2
  obtain ⟨a3, c3, rfl⟩ := own_form h3
  have e1 : payL r = r.st.pay := if_neg hf
  have e2 : outL r = r.st.out := if_neg hf
  have e3 : hasL r = r.st.has := if_neg hf
  refine ⟨a1, c1, a2, c2, a3, c3, ?_, ?_, ?_, ?_, hb⟩
  ·rw [e1, e2, e3]
   unfold fl slotOf
   rw [h0]
   rw [hst.payl, hst.outl, hst.hasl]
   rfl
  ·rw [e1]; exact ⟨by simp, by rw [hst.payl]; exact h1⟩
  ·rw [e2]; exact ⟨by simp, by rw [hst.outl]; exact h2⟩
  ·rw [e3]; exact ⟨by simp, by rw [hst.hasl]; exact h3⟩

end Code
end Go.Proofs.YtdpjbnjlognmeaaGreatDoor

namespace Go.Proofs.YtdpjbnjlognmeaaGreatDoor
open Go.RowKit

namespace Code

attribute [local go_sem ↓] Go.wp_at_zero Go.wp_at_succ

/-- what a run tells, and that it ran -/
def RanUni (r : B.Out) (w : World) (e : Ending) (w' : World) : Prop :=
 ∃ a1 c1 a2 c2 a3 c3, e = .returned (.tuple #[.agg #[.bool (fl r), .int .i64 (slotOf r), .slice a1 (payL r).length c1, .slice a2 (outL r).length c2, .slice a3 (hasL r).length c3, .int .i64 (r.steps : Int)], .bool true]) ∧
  One.OwnV 5 w' w.heap.size a1 (payL r).length c1 ((payL r).map u8V) ∧ One.OwnV 35 w' w.heap.size a2 (outL r).length c2 ((outL r).map u64V) ∧ One.OwnV 4 w' w.heap.size a3 (hasL r).length c3 ((hasL r).map Value.bool) ∧ Below w.heap.size w w'

/-- what a run tells and a truth are answered -/
theorem retRan {fn : Func} {p u : Nat} (hr : fn.results = #[.cell p 44, .tmp u]) {tmps : Array Value} {wz : World} {R : Nat} {C : Array Value} (hC : C.size = 6) {c : Bool} (hp : tmps.getD p undef = .pointer (some ⟨R, 0, none⟩)) (hu : tmps.getD u undef = .bool c) (hm : RC wz R 44 6 C) :
    (results fn tmps).run Tryz.prog wz = .ok (.tuple #[.agg C, .bool c]) wz := by
 rw [results_cell_tmp hr, hp, hu]
 have hi : (Tryz.prog.info? 44).map (·.size) = some 6 := by kernel_rfl
 have hload := run_loadVar_mid (P := Tryz.prog) wz R 0 44 C.toList _ (RC.range hm) Tryz.underlying44 rfl (by rw [hi]; simp [hC])
 simp only [asAddr, Sem.run_pure, Result.andThen]
 rw [hload]

set_option maxRecDepth 100000 in
set_option maxHeartbeats 6400000 in
theorem packed_any (m : B.Msg) (sa pa va : Option Addr) (n cap pn pc vn vc : Nat) (pay inp : List Nat) (w : World) (hm : MsgWf m) (hs : SigsAt w sa n m.sigs) (hU : UTabs w) (hT : Tabs w) (h0 : m.no.1 = 0)
    (hwf : ∀ y ∈ m.packI, y.Wf) (hr : m.packI.length ≤ 9223372036854775807) (hmay : B.MayRun m.packI pn vn) (hpay : ListAt w pa pn (pay.map u8V)) (hinp : ListAt w va vn (inp.map u64V)) (hby : B.Bytes pay) (hwi : B.Words inp) :
    Calls Tryz.prog 11 #[.agg (msgC m (.slice sa n cap)), .slice pa pn pc, .slice va vn vc] w (RanUni (B.run m.packI inp 0 (B.start pay vn)) w) := by
 have hrow := RC.new (msgC m (.slice sa n cap)) 27 w (n := 8) rfl rfl
 have hbel : Below w.heap.size w (w.alloc (.cells (msgC m (.slice sa n cap)) 27)) := (Below.refl _ _).alloc (Nat.le_refl _) _
 obtain ⟨w1, hw1⟩ : ∃ w1, w.alloc (.cells (msgC m (.slice sa n cap)) 27) = w1 := ⟨_, rfl⟩
 rw [hw1] at hrow hbel
 have hb12 : Below w1.heap.size w1 (w1.alloc (.cells #[.bool false, .int .i64 0, .slice none 0 0, .slice none 0 0, .slice none 0 0, .int .i64 0] 44)) := (Below.refl _ _).alloc (Nat.le_refl _) _
 have hresr := RC.new #[.bool false, .int .i64 0, .slice none 0 0, .slice none 0 0, .slice none 0 0, .int .i64 0] 44 w1 (n := 6) rfl rfl
 have hres := heap_alloc_new w1 (.cells #[.bool false, .int .i64 0, .slice none 0 0, .slice none 0 0, .slice none 0 0, .int .i64 0] 44)
 obtain ⟨w2, hw2⟩ : ∃ w2, w1.alloc (.cells #[.bool false, .int .i64 0, .slice none 0 0, .slice none 0 0, .slice none 0 0, .int .i64 0] 44) = w2 := ⟨_, rfl⟩
 rw [hw2] at hb12 hres hresr
 have hrow2 := hrow.below hb12 hrow.blk
 have hrr := RC.range hrow2
 have hb2 : Below w.heap.size w w2 := hbel.trans (hb12.mono hbel.size)
 have hpack := pack_yes m sa n cap w2 hm (hs.below hb2 (Nat.le_refl _)) (hU.below hb2 (Nat.le_refl _)) h0
 have HB2 := Lib.hid hb2
 have HXW : Hid (w.heap.size ≤ w1.heap.size) := Lib.hid hbel.size
 have HRESR := Lib.hid hresr
 have HRESB := Lib.hid hres
 have HWF := Lib.hid hwf
 have HMAY := Lib.hid hmay
 have HPAY := Lib.hid (hpay.below hb2 (Nat.le_refl _))
 have HINP := Lib.hid (hinp.below hb2 (Nat.le_refl _))
 have HTT := Lib.hid (hT.below hb2 (Nat.le_refl _))
 have HBY := Lib.hid hby
 have HWI := Lib.hid hwi
 have HR := Lib.hid hr
 clear hrow hrow2 hbel hb12 hb2 hres hresr hwf hmay hpay hinp hby hwi hm hs hU hT h0 hr
 go_enter Tryz.func11, Tryz.ntmps11
 go_upto_region 1 with fail
 try rw [hw1]
 try rw [hw2]
 clear hw1 hw2
 go_upto_region 4 with (first
  | refine wpList_load_mid (by rfl) 27 _ (by rfl) w.heap.size 0 (by rfl) (msgC m (.slice sa n cap)).toList _ hrr Tryz.underlying27 (by rfl) (by kernel_rfl) ?_
  | (go_at_call 35; refine hpack.mono ?_; rintro e w3 ⟨a3, c3, rfl, hown3, hb3⟩))
 have hrun := run_uni a3 pa va m.packI.length c3 pn pc vn vc m.packI pay inp w3 hown3.progAt HWF.out (HTT.out.below hb3 (Nat.le_refl _)) HR.out HMAY.out (HPAY.out.below hb3 (Nat.le_refl _)) (HINP.out.below hb3 (Nat.le_refl _)) HBY.out HWI.out
 obtain ⟨r, hrr2⟩ : ∃ r, B.run m.packI inp 0 (B.start pay vn) = r := ⟨_, rfl⟩
 rw [hrr2] at hrun ⊢
 go_upto_region 5 with (go_at_call 36; refine hrun.mono ?_; rintro e w4 ⟨a4, c4, a5, c5, a6, c6, rfl, o1, o2, o3, hb4⟩)
 have hrw4 : RC w4 w1.heap.size 44 6 #[.bool false, .int .i64 0, .slice none 0 0, .slice none 0 0, .slice none 0 0, .int .i64 0] := (HRESR.out.below hb3 HRESR.out.blk).below hb4 (Nat.lt_of_lt_of_le HRESR.out.blk hb3.size)
 have hb45 : Below w4.heap.size w4 (w4.alloc (.cells #[.bool (fl r), .int .i64 (slotOf r), .slice a4 (payL r).length c4, .slice a5 (outL r).length c5, .slice a6 (hasL r).length c6, .int .i64 (r.steps : Int)] 44)) := (Below.refl _ _).alloc (Nat.le_refl _) _
 have hnew := RC.range (RC.new #[.bool (fl r), .int .i64 (slotOf r), .slice a4 (payL r).length c4, .slice a5 (outL r).length c5, .slice a6 (hasL r).length c6, .int .i64 (r.steps : Int)] 44 w4 (n := 6) rfl rfl)
 have hz34 : w3.heap.size ≤ w4.heap.size := hb4.size
 have hx2 : w1.heap.size < w2.heap.size := HRESR.out.blk
 have hxw : w.heap.size ≤ w1.heap.size := HXW.out
 have hz23 : w2.heap.size ≤ w3.heap.size := hb3.size
 obtain ⟨w5, hw5⟩ : ∃ w5, w4.alloc (.cells #[.bool (fl r), .int .i64 (slotOf r), .slice a4 (payL r).length c4, .slice a5 (outL r).length c5, .slice a6 (hasL r).length c6, .int .i64 (r.steps : Int)] 44) = w5 := ⟨_, rfl⟩
 rw [hw5] at hb45 hnew ⊢
 have hrw5 := hrw4.below hb45 hrw4.blk
 have hb5 : Below w.heap.size w w5 := HB2.out.trans ((hb3.mono HB2.out.size).trans ((hb4.mono (Nat.le_trans HB2.out.size hz23)).trans (hb45.mono (Nat.le_trans HB2.out.size (Nat.le_trans hz23 hz34)))))
 have hG : w5.drew.heap[w1.heap.size]? = some (.cells #[.bool false, .int .i64 0, .slice none 0 0, .slice none 0 0, .slice none 0 0, .int .i64 0] 44 (0, 0)) :=
  (hb45.block _ (by omega)).trans ((hb4.block _ (by omega)).trans ((hb3.block _ hx2).trans HRESB.out))
 have HLOC : Hid (∀ w' : World, w'.heap[w4.heap.size]? = w5.heap[w4.heap.size]? → w'.rangeAt w4.heap.size 0 (#[.bool (fl r), .int .i64 (slotOf r), .slice a4 (payL r).length c4, .slice a5 (outL r).length c5, .slice a6 (hasL r).length c6, .int .i64 (r.steps : Int)] : Array Value).toList) := Lib.hid (fun w' h => RC.range (RC.of (by rw [← hw5]; exact RC.new _ 44 w4 (n := 6) rfl rfl) h))
 have hl45 : w4.heap.size < w5.heap.size := by rw [← hw5]; simp
 clear hw5 hnew hrr
 refine wp_region_held_drew (S := fun w' => w'.heap[w4.heap.size]? = w5.heap[w4.heap.size]?) (by kernel_rfl) rfl (fun hS1 => ?_)
 refine takeM (i := 0) (d := 27) 44 _ w4.heap.size 0 #[.bool (fl r), .int .i64 (slotOf r), .slice a4 (payL r).length c4, .slice a5 (outL r).length c5, .slice a6 (hasL r).length c6, .int .i64 (r.steps : Int)] _ rfl rfl rfl rfl (by rfl) Tryz.underlying44 rfl (by kernel_rfl) (by kernel_rfl) (by kernel_rfl) (by kernel_rfl) (fun _ _ _ h => h) (fun w' h => HLOC.out w' h) hS1 ?_
 simp only [Act.put, List.setIfInBounds_toArray, List.set_cons_zero, List.set_cons_succ]
 refine takeS (i := 1) (d := 28) (v := .nilIface) rfl rfl rfl (by kernel_rfl) (by kernel_rfl) (by kernel_rfl) (fun _ _ _ h => h) (fun w' h => by go_simp) hS1 ?_
 simp only [Act.put, List.setIfInBounds_toArray, List.set_cons_zero, List.set_cons_succ]
 refine takeS (i := 2) (d := 29) (v := .bool true) rfl rfl rfl (by kernel_rfl) (by kernel_rfl) (by kernel_rfl) (fun _ _ _ h => h) (fun w' h => by go_simp) hS1 ?_
 simp only [Act.put, List.setIfInBounds_toArray, List.set_cons_zero, List.set_cons_succ]
 refine wpAnyH_ready (rs := [3]) (by kernel_rfl) (by simp) ?_
 refine AllReadyH.cons rfl (fun K hK => ?_) AllReadyH.nil
 refine step_store rfl (.tmp 6) (.tmp 27) rfl rfl rfl hG rfl (by simp [Value.oneCell']) ?_
 intro w6 hrow6 hg6
 have hz56 : w5.heap.size ≤ w6.heap.size := hg6.size
 have hz45 : w4.heap.size ≤ w5.heap.size := hb45.size
 refine hK.out _ _ (hg6.block _ hl45 (fun e => by have := Option.some.inj e; omega)) (fun hS2 => ?_)
 have hkeep : ∀ (g : Nat), w3.heap.size ≤ g → g < w4.heap.size → w6.heap[g]? = w4.heap[g]? := fun g hg hg2 =>
  (hg6.block g (Nat.lt_trans hg2 hl45) (fun e => by have := Option.some.inj e; omega)).trans (hb45.block g hg2)
 have HO1 := Lib.hid ((o1.keep (w' := w6) (fun g e => by rcases o1.form with ⟨e0, _⟩ | ⟨g', e1, h1, h2⟩; (rw [e0] at e; cases e); (rw [e1] at e; cases e; exact hkeep _ h1 h2))).weaken (base' := w.heap.size) (by omega))
 have HO2 := Lib.hid ((o2.keep (w' := w6) (fun g e => by rcases o2.form with ⟨e0, _⟩ | ⟨g', e1, h1, h2⟩; (rw [e0] at e; cases e); (rw [e1] at e; cases e; exact hkeep _ h1 h2))).weaken (base' := w.heap.size) (by omega))
 have HO3 := Lib.hid ((o3.keep (w' := w6) (fun g e => by rcases o3.form with ⟨e0, _⟩ | ⟨g', e1, h1, h2⟩; (rw [e0] at e; cases e); (rw [e1] at e; cases e; exact hkeep _ h1 h2))).weaken (base' := w.heap.size) (by omega))
 have HB6 : Hid (Below w.heap.size w w6) := Lib.hid (hb5.drew.grown hg6 hb5.drew.size (fun k hk => by cases hk; exact hxw))
 have HR6 : Hid (RC w6 w1.heap.size 44 6 #[.bool (fl r), .int .i64 (slotOf r), .slice a4 (payL r).length c4, .slice a5 (outL r).length c5, .slice a6 (hasL r).length c6, .int .i64 (r.steps : Int)]) := Lib.hid (RC.of (RC.new #[.bool (fl r), .int .i64 (slotOf r), .slice a4 (payL r).length c4, .slice a5 (outL r).length c5, .slice a6 (hasL r).length c6, .int .i64 (r.steps : Int)] 44 w1 (n := 6) rfl rfl) (by rw [hrow6]; exact (heap_alloc_new w1 _).symm))
 clear hK K
 simp only [Act.put]
 refine takeS (i := 4) (d := 7) (v := .bool true) rfl rfl rfl (by kernel_rfl) (by kernel_rfl) (by kernel_rfl) (fun _ _ _ h => h) (fun w' h => by go_simp) hS2 ?_
 simp only [Act.put, List.setIfInBounds_toArray, List.set_cons_zero, List.set_cons_succ]
 refine wpAnyH_done (by kernel_rfl) ?_ _
 clear hkeep hg6 hrow6 hz56 hz45 hG hb5 hrw5 hb45 hrw4 hb3 hb4 hown3 hS1 hS2
 go_wp2_with fail
 exact bodyPost_ret (v := .tuple #[.agg #[.bool (fl r), .int .i64 (slotOf r), .slice a4 (payL r).length c4, .slice a5 (outL r).length c5, .slice a6 (hasL r).length c6, .int .i64 (r.steps : Int)], .bool true]) (retRan (p := 6) (u := 7) (by kernel_rfl) rfl (by rfl) (by rfl) HR6.out) rfl ⟨a4, c4, a5, c5, a6, c6, rfl, HO1.out, HO2.out, HO3.out, HB6.out⟩

end Code
end Go.Proofs.YtdpjbnjlognmeaaGreatDoor
