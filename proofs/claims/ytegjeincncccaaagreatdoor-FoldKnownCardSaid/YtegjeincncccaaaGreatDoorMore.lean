/- A list copied. -/
import Derived.Test.YtegjeincncccaaaGreatDoorApp
namespace Go.Proofs.YtegjeincncccaaaGreatDoor
open Go.RowKit

namespace Code

attribute [local go_sem ↓] Go.wp_at_zero Go.wp_at_succ

theorem take_snoc' {α : Type} (l : List α) (k : Nat) (x : α) (h : l[k]? = some x) : l.take (k + 1) = l.take k ++ [x] := by
 rw [List.take_add_one, h]; rfl

/-- a list of its own with the same instructions is answered -/
def CopyOut (len : Nat) (ps : List B.Ins) (w : World) (e : Ending) (w' : World) : Prop := ∃ ao cap', e = .returned (.slice ao len cap') ∧ OwnP w' w.heap.size ao len cap' ps ∧ Below w.heap.size w w'

set_option maxHeartbeats 1000000 in
theorem copy_any (a : Option Addr) (len cap : Nat) (ps : List B.Ins) (w : World) (hp : ProgAt w a len ps) (hr : len * 40 ≤ 140737488351232) :
    Calls Tryz.prog 155 #[.slice a len cap] w (CopyOut len ps w) := by
 have HP := Lib.hid hp
 have hlen : len ≤ 3518437208780 := by omega
 clear hp
 go_enter Tryz.func155, Tryz.ntmps155
 go_wp2_with fail
 go_loopw [3, 4] (fun v i wr => ∃ (k : Nat) (ao : Option Addr) (cp : Nat), k ≤ len ∧ i = .int .i64 k ∧ v = .slice ao k cp ∧ OwnP wr w.heap.size ao k cp (ps.take k) ∧ Below w.heap.size w wr)
  (fun _ i _ => len - (intOf i).toNat)
 case atStart => exact ⟨0, none, 0, Nat.zero_le _, rfl, rfl, OwnP.nil _ _, Below.refl _ _⟩
 case round =>
  obtain ⟨k, ao, cp, hk, rfl, rfl, hown, hb⟩ := hrel
  have HB := Lib.hid hb
  have hsz := hb.size
  by_cases hlt : k < len
  ·have hx : ps[k]? = some (ps[k]'(by have := HP.out.len; omega)) := List.getElem?_eq_getElem _
   generalize ps[k]'(by have := HP.out.len; omega) = x at hx
   obtain ⟨b, off, rfl, hbl, hat⟩ := HP.out.at_ k x hx
   have hat' := hat.below hb hbl
   obtain ⟨h0, h1, h2, h3, h4⟩ := hat'
   have HX := Lib.hid hx
   have HO := Lib.hid hown
   clear hx hat hown hb
   go_wp2_with (at_builtin; refine app_ins rfl _ _ rfl w.heap.size rfl HO.out rfl (by omega) (by omega) ?_; intro ao' cp' w1 hown1 hb1 hs1)
   go_roundw
   case rel => exact ⟨k + 1, ao', cp', by omega, by go_num, rfl, by rw [take_snoc' _ _ _ HX.out]; exact hown1, HB.out.trans (hb1.mono (Nat.le_refl _))⟩
   case measure => simp [intOf]; omega
  ·obtain rfl : k = len := by omega
   have HO : Hid (OwnP wr w.heap.size ao k cp ps) := by
    have := hown
    rw [List.take_of_length_le (by have := HP.out.len; omega)] at this
    exact this
   clear hown hb
   go_wp2_with fail
   go_ret
   exact ⟨ao, cp, rfl, HO.out, HB.out⟩

end Code
end Go.Proofs.YtegjeincncccaaaGreatDoor
