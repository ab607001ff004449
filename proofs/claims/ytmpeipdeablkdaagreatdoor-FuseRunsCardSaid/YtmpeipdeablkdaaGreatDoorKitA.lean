/- What busbarkit's lists of instructions come to. -/
import Derived.Test.YtmpeipdeablkdaaGreatDoorBase
namespace Go.Proofs.YtmpeipdeablkdaaGreatDoor
open Go.RowKit

/-- the mark of a place -/
def markI (i : Int) : B.Ins := ⟨-97, 0, 0, 0, IntKind.u64.wrap i⟩

theorem mark_any (i : Int) (w : World) :
    Calls Tryz.prog 50 #[.int .i64 90, .int .i64 i] w fun e w' => e = .returned (.agg #[.int .i64 (-97), .int .i64 0, .int .i64 0, .int .i64 0, .int .u64 (IntKind.u64.wrap i)]) ∧ Below w.heap.size w w' := by
 go_enter Tryz.func50, Tryz.ntmps50
 go_wp2
 exact bodyPost_ret (v := .agg #[.int .i64 (-97), .int .i64 0, .int .i64 0, .int .i64 0, .int .u64 (IntKind.u64.wrap i)]) (by simp [results, Tryz.results50, go_sem]) rfl ⟨rfl, (Below.refl _ _).alloc (Nat.le_refl _) _⟩

theorem markI_nat (m : Nat) (h : m < 1000) : markI m = ⟨-97, 0, 0, 0, m⟩ := by
 unfold markI
 rw [show IntKind.u64.wrap (m : Int) = (m : Int) from IntWalk.u64_in _ (by omega)]

/-- sixteen marks -/
def marks (k : Nat) : List B.Ins := (List.range k).map fun (i : Nat) => markI (i : Int)

theorem take_snoc {α : Type} (l : List α) (k : Nat) (x : α) (h : l[k]? = some x) : l.take (k + 1) = l.take k ++ [x] := by
 rw [List.take_add_one, h]; rfl
theorem marks_succ (k : Nat) : marks (k + 1) = marks k ++ [markI k] := by simp [marks, List.range_succ]

set_option maxHeartbeats 1000000 in
theorem full_any (a : Option Addr) (len cap : Nat) (ps : List B.Ins) (w : World) (hp : ProgAt w a len ps) (hr : len * 40 ≤ 140737488351232) :
    Calls Tryz.prog 39 #[.slice a len cap] w fun e w' => ∃ ao cap', e = .returned (.slice ao (len + 16) cap') ∧ OwnP w' w.heap.size ao (len + 16) cap' (ps ++ marks 16) ∧ Below w.heap.size w w' := by
 have HP := Lib.hid hp
 have hlen : len ≤ 3518437208780 := by omega
 clear hp
 go_enter Tryz.func39, Tryz.ntmps39
 go_wp2
 go_loopw [3, 4] (fun v i wr => ∃ (k : Nat) (ao : Option Addr) (cp : Nat), k ≤ len ∧ i = .int .i64 k ∧ v = .slice ao k cp ∧ OwnP wr w.heap.size ao k cp (ps.take k) ∧ Below w.heap.size w wr)
  (fun _ i _ => len - (intOf i).toNat)
 case atStart => exact ⟨0, none, 0, Nat.zero_le _, rfl, rfl, OwnP.nil _ _, Below.refl _ _⟩
 case round =>
  obtain ⟨k, ao, cp, hk, rfl, rfl, hown, hb⟩ := hrel
  have HB := Lib.hid hb
  have hsz := hb.size
  by_cases hlt : k < len
  ·have hx : ps[k]? = some (ps[k]'(by have := HP.out.len; omega)) := List.getElem?_eq_getElem _
   generalize ps[k]'(by have := HP.out.len; omega) = x at hx
   obtain ⟨b, off, rfl, hbl, hat⟩ := HP.out.at_ k x hx
   have hat' := hat.below hb hbl
   obtain ⟨h0, h1, h2, h3, h4⟩ := hat'
   have HX := Lib.hid hx
   have HO := Lib.hid hown
   clear hx hat hown hb
   go_wp2_with (at_builtin; refine app_ins rfl _ _ rfl w.heap.size rfl HO.out rfl (by omega) (by omega) ?_; intro ao' cp' w1 hown1 hb1 hs1)
   go_roundw
   case rel => exact ⟨k + 1, ao', cp', by omega, by go_num, rfl, by rw [take_snoc _ _ _ HX.out]; exact hown1, HB.out.trans (hb1.mono (Nat.le_refl _))⟩
   case measure => simp [intOf]; omega
  ·obtain rfl : k = len := by omega
   have HO : Hid (OwnP wr w.heap.size ao k cp ps) := by
    have := hown
    rw [List.take_of_length_le (by have := HP.out.len; omega)] at this
    exact this
   clear hown hb
   go_wp2
   go_loopw [3, 5] (fun v i w2 => ∃ (m : Nat) (ao : Option Addr) (cp : Nat), m ≤ 16 ∧ i = .int .i64 m ∧ v = .slice ao (k + m) cp ∧ OwnP w2 w.heap.size ao (k + m) cp (ps ++ marks m) ∧ Below w.heap.size w w2)
    (fun _ i _ => 16 - (intOf i).toNat)
   case atStart => exact ⟨0, ao, cp, by omega, rfl, rfl, by simpa [marks] using HO.out, HB.out⟩
   case round =>
    obtain ⟨m, ao2, cp2, hm, rfl, rfl, hown2, hb2⟩ := hrel
    have HB2 := Lib.hid hb2
    have HO2 := Lib.hid hown2
    have hsz2 := hb2.size
    clear hb2 hown2
    by_cases hlt2 : m < 16
    ·go_wp2_with fail
     refine (mark_any m _).mono ?_
     rintro e w3 ⟨rfl, hb3⟩
     have hsz3 := hb3.size
     have HO3 := Lib.hid (HO2.out.kept hb3)
     have HB3 := Lib.hid hb3
     clear hb3
     go_wp2_with (at_builtin; refine app_ins rfl _ _ rfl w.heap.size rfl HO3.out rfl (by omega) (by omega) ?_; intro ao' cp' w1 hown1 hb1 hs1)
     go_roundw
     case rel => exact ⟨m + 1, ao', cp', by omega, by go_num, by rw [Nat.add_assoc], by rw [marks_succ, ← List.append_assoc, markI_nat m (by omega)]; exact hown1, (HB2.out.trans (HB3.out.mono (by omega))).trans hb1⟩
     case measure => simp [intOf]; omega
    ·obtain rfl : m = 16 := by omega
     go_wp2
     go_ret
     exact ⟨ao2, cp2, rfl, HO2.out, HB2.out⟩

theorem OwnP.capLe {w : World} {base : Nat} {ao : Option Addr} {n cap : Nat} {qs : List B.Ins} (h : OwnP w base ao n cap qs) : n ≤ cap := by
 rcases h.own.2 with ⟨hv, hn⟩ | ⟨g, cap', cur, hv, hg, hh, hle, _⟩
 ·omega
 ·cases hv; exact hle

theorem OwnP.capMax {w : World} {base : Nat} {ao : Option Addr} {n cap : Nat} {qs : List B.Ins} (h : OwnP w base ao n cap qs) : cap ≤ 9223372036854775807 := by
 rcases h.own.2 with ⟨hv, hn⟩ | ⟨g, cap', cur, hv, hg, hh, hle, hm, _⟩
 ·cases hv; omega
 ·cases hv; exact hm

set_option maxHeartbeats 1000000 in
theorem lent_any (a : Option Addr) (len cap : Nat) (ps : List B.Ins) (w : World) (hp : ProgAt w a len ps) (hr : len * 40 ≤ 140737488351232) :
    Calls Tryz.prog 14 #[.slice a len cap] w fun e w' => ∃ ao cap', e = .returned (.slice ao len cap') ∧ OwnP w' w.heap.size ao (len + 16) cap' (ps ++ marks 16) ∧ Below w.heap.size w w' := by
 go_enter Tryz.func14, Tryz.ntmps14
 go_wp2_with fail
 refine (full_any a len cap ps _ hp hr).mono ?_
 rintro e w1 ⟨ao, cap', rfl, hown, hb⟩
 have hc := hown.capLe
 have hm := hown.capMax
 have HO := Lib.hid hown
 have HB := Lib.hid hb
 have hl2 : len ≤ cap' := by omega
 clear hown hb hp
 go_wp2
 go_ret
 exact ⟨ao, cap', rfl, HO.out, HB.out⟩

set_option maxHeartbeats 1000000 in
theorem keptfull_any (ao : Option Addr) (cap' : Nat) (a : Option Addr) (len cap base : Nat) (ps : List B.Ins) (w : World) (ho : OwnP w base ao (len + 16) cap' (ps ++ marks 16)) (hp : ProgAt w a len ps) (hr : len * 40 ≤ 140737488351232) :
    Calls Tryz.prog 51 #[.slice ao (len + 16) cap', .slice a len cap] w fun e w' => e = .returned (.bool true) ∧ Below w.heap.size w w' := by
 have HP := Lib.hid hp
 have HO := Lib.hid ho
 have hlen : len ≤ 3518437208780 := by omega
 clear hp ho
 go_enter Tryz.func51, Tryz.ntmps51
 go_wp2
 go_loopw [5] (fun i wr => ∃ (k : Nat), k ≤ len + 16 ∧ i = .int .i64 k ∧ Below w.heap.size w wr)
  (fun i _ => len + 16 - (intOf i).toNat)
 case atStart => exact ⟨0, Nat.zero_le _, rfl, Below.refl _ _⟩
 case round =>
  obtain ⟨k, hk, rfl, hb⟩ := hrel
  have HB := Lib.hid hb
  have hsz := hb.size
  clear hb
  by_cases hlt : k < len + 16
  ·go_wp2_with fail
   refine (mark_any _ _).mono ?_
   rintro e w3 ⟨rfl, hb3⟩
   by_cases hk2 : k < len
   ·have hx : ps[k]? = some (ps[k]'(by have := HP.out.len; omega)) := List.getElem?_eq_getElem _
    generalize ps[k]'(by have := HP.out.len; omega) = x at hx
    obtain ⟨b, off, rfl, hbl, hat⟩ := HP.out.at_ k x hx
    obtain ⟨h0, h1, h2, h3, h4⟩ := (hat.below HB.out hbl).below hb3 (by omega)
    have hx2 : (ps ++ marks 16)[k]? = some x := by rw [List.getElem?_append_left (by have := HP.out.len; omega)]; exact hx
    obtain ⟨g, rfl, hg1, hg2, hat2⟩ := HO.out.insAt hx2
    obtain ⟨g0, g1, g2, g3, g4⟩ := (hat2.below HB.out hg2).below hb3 (by omega)
    have hsz3 := hb3.size
    have hbs : b < w3.heap.size := by omega
    have hgs : g < w3.heap.size := by have := HB.out.size; omega
    have HB3 := Lib.hid hb3
    clear hx hx2 hat hat2 hb3
    go_wp2_with fail
    go_quiet (fail)
    go_wp2_with fail
    go_roundw
    case rel => exact ⟨k + 1, by omega, by go_num, belowN ((HB.out.trans (HB3.out.mono (by omega))).alloc (by omega) _) _⟩
    case measure => simp [intOf]; omega
   ·have hx2 : (ps ++ marks 16)[k]? = some (markI ((k : Int) - len)) := by
      rw [List.getElem?_append_right (by have := HP.out.len; omega), marks, List.getElem?_map, List.getElem?_range (by have := HP.out.len; omega)]
      simp only [Option.map_some]
      congr 2
      have := HP.out.len
      omega
    obtain ⟨g, rfl, hg1, hg2, hat2⟩ := HO.out.insAt hx2
    obtain ⟨g0, g1, g2, g3, g4⟩ := (hat2.below HB.out hg2).below hb3 (by have := HB.out.size; omega)
    have hsz3 := hb3.size
    have hgs : g < w3.heap.size := by have := HB.out.size; omega
    have HB3 := Lib.hid hb3
    simp only [markI] at g0 g1 g2 g3 g4
    clear hx2 hat2 hb3
    go_wp2_with fail
    go_quiet (fail)
    go_wp2_with fail
    go_roundw
    case rel => exact ⟨k + 1, by omega, by go_num, belowN ((HB.out.trans (HB3.out.mono (by omega))).alloc (by omega) _) _⟩
    case measure => simp [intOf]; omega
  ·go_wp2
   go_ret
   exact ⟨rfl, HB.out⟩

set_option maxHeartbeats 1000000 in
theorem kept_any (ao : Option Addr) (cap' : Nat) (a : Option Addr) (len cap base : Nat) (ps : List B.Ins) (w : World) (ho : OwnP w base ao (len + 16) cap' (ps ++ marks 16)) (hp : ProgAt w a len ps) (hr : len * 40 ≤ 140737488351232) :
    Calls Tryz.prog 20 #[.slice ao len cap', .slice a len cap] w fun e w' => e = .returned (.bool true) ∧ Below w.heap.size w w' := by
 have hc := ho.capLe
 have hm := ho.capMax
 have HP := Lib.hid hp
 have HO := Lib.hid ho
 have hlen : len ≤ 3518437208780 := by omega
 clear hp ho
 go_enter Tryz.func20, Tryz.ntmps20
 go_wp2_with fail
 refine (keptfull_any _ _ _ _ _ base ps _ HO.out HP.out hr).mono ?_
 rintro e w3 ⟨rfl, hb3⟩
 have HB := Lib.hid hb3
 clear hb3
 go_wp2
 go_ret
 exact ⟨rfl, HB.out⟩

end Go.Proofs.YtmpeipdeablkdaaGreatDoor
