/- 'OptTraffic': of every list of instructions opt.Traffic answers what the reference does, and the list that was lent is as it was. No condition. -/
import Derived.Test.YtiljclmhcoppeaaKitA
import Derived.Test.YtiljclmhcoppeaaOpen
import Derived.Test.YtiljclmhcoppeaaRows
import Derived.OpenShut
import Derived.ChangeOld
import Derived.Below
namespace Go.Proofs.Ytiljclmhcoppeaa
open Go.ChangeShapes Go.WideShapes Go.ChangeAt Go.RowKit

namespace LawTraffic

def hit (x : B.Ins) : Bool := decide (9 ≤ x.op ∧ x.op ≤ 13)
def traffic (ps : List B.Ins) : Nat := (ps.filter hit).length

theorem traffic_snoc (ps : List B.Ins) (x : B.Ins) : traffic (ps ++ [x]) = traffic ps + if hit x then 1 else 0 := by
  unfold traffic
  rw [List.filter_append, List.length_append]
  cases h : hit x <;> simp [h]
theorem traffic_le (ps : List B.Ins) : traffic ps ≤ ps.length := List.length_filter_le _ _

set_option maxHeartbeats 1000000 in
theorem traffic_any (a : Option Addr) (len cap : Nat) (ps : List B.Ins) (w : World) (hp : ProgAt w a len ps) (hr : len ≤ 9223372036854775807) :
    Calls Try.prog 5 #[.slice a len cap] w fun e w' => e = .returned (.int .i64 (traffic ps)) ∧ Below w.heap.size w w' := by
  have HP := Lib.hid hp
  clear hp
  go_enter Try.func5, Try.ntmps5
  go_wp2
  go_loopw [3, 8] (fun n i wr => ∃ k : Nat, k ≤ len ∧ i = .int .i64 k ∧ n = .int .i64 (traffic (ps.take k)) ∧ Below w.heap.size w wr)
    (fun _ i _ => len - (intOf i).toNat)
  case atStart => exact ⟨0, Nat.zero_le _, rfl, rfl, Below.refl _ _⟩
  case round =>
    obtain ⟨k, hk, rfl, rfl, hb⟩ := hrel
    have HB := Lib.hid hb
    have hsz := hb.size
    by_cases hlt : k < len
    · have hx : ps[k]? = some (ps[k]'(by have := HP.out.len; omega)) := List.getElem?_eq_getElem _
      generalize ps[k]'(by have := HP.out.len; omega) = x at hx
      obtain ⟨b, off, rfl, hbl, hat⟩ := HP.out.at_ k x hx
      obtain ⟨h0, h1, h2, h3, h4⟩ := hat.below hb hbl
      have hbw : b < wr.heap.size := by omega
      have hle : traffic (ps.take k) ≤ k := Nat.le_trans (traffic_le _) (by rw [List.length_take]; omega)
      have HS : Hid (traffic (ps.take (k + 1)) = traffic (ps.take k) + if hit x then 1 else 0) := by rw [take_snoc _ _ _ hx]; exact traffic_snoc _ _
      clear hx hat hb
      generalize ht : traffic (ps.take k) = t at *
      have HT := Lib.hid ht
      clear ht
      by_cases c1 : 9 ≤ x.op
      · by_cases c2 : x.op ≤ 13
        · have hh : Hid (hit x = true) := by show hit x = true; unfold hit; simp; omega
          go_wp2_with fail
          go_roundw
          case rel => exact ⟨k + 1, by omega, by go_num, by rw [HS.out, hh.out]; simp, HB.out.alloc (by omega) _⟩
          case measure => simp [intOf]; omega
        · have hh : Hid (hit x = false) := by show hit x = false; unfold hit; simp; omega
          go_wp2_with fail
          go_roundw
          case rel => exact ⟨k + 1, by omega, by go_num, by rw [HS.out, hh.out]; simp, HB.out.alloc (by omega) _⟩
          case measure => simp [intOf]; omega
      · have hh : Hid (hit x = false) := by show hit x = false; unfold hit; simp; omega
        have hd : decide ((9 : Int) ≤ x.op) = false := by simpa using c1
        go_wp2_with fail
        go_roundw
        case rel => exact ⟨k + 1, by omega, by go_num, by rw [HS.out, hh.out]; simp, HB.out.alloc (by omega) _⟩
        case measure => simp [intOf]; omega
    · obtain rfl : k = len := by omega
      have HE : Hid (ps.take k = ps) := List.take_of_length_le (by have := HP.out.len; omega)
      clear hb
      go_wp2
      go_ret
      exact ⟨ret_int (by rw [HE.out]), HB.out⟩

set_option maxHeartbeats 2000000 in
theorem ref_any (a : Option Addr) (len cap : Nat) (ps : List B.Ins) (w : World) (hp : ProgAt w a len ps) (hr : len ≤ 9223372036854775807) :
    Calls Try.prog 6 #[.slice a len cap] w fun e w' => e = .returned (.int .i64 (traffic ps)) ∧ w' = w := by
  have HP := Lib.hid hp
  clear hp
  go_enter Try.func6, Try.ntmps6
  go_wp2
  go_loop [3, 4] (fun n i => ∃ k : Nat, k ≤ len ∧ i = .int .i64 k ∧ n = .int .i64 (traffic (ps.take k)))
    (fun _ i => len - (intOf i).toNat)
  case atStart => exact ⟨0, Nat.zero_le _, rfl, rfl⟩
  case round =>
    obtain ⟨k, hk, rfl, rfl⟩ := hrel
    by_cases hlt : k < len
    · have hx : ps[k]? = some (ps[k]'(by have := HP.out.len; omega)) := List.getElem?_eq_getElem _
      generalize ps[k]'(by have := HP.out.len; omega) = x at hx
      obtain ⟨b, off, rfl, hbl, hat⟩ := HP.out.at_ k x hx
      obtain ⟨h0, h1, h2, h3, h4⟩ := hat
      have hle : traffic (ps.take k) ≤ k := Nat.le_trans (traffic_le _) (by rw [List.length_take]; omega)
      have HS : Hid (traffic (ps.take (k + 1)) = traffic (ps.take k) + if hit x then 1 else 0) := by rw [take_snoc _ _ _ hx]; exact traffic_snoc _ _
      clear hx
      generalize ht : traffic (ps.take k) = t at *
      have HT := Lib.hid ht
      clear ht
      rcases (show x.op < 9 ∨ x.op = 9 ∨ x.op = 10 ∨ x.op = 11 ∨ x.op = 12 ∨ x.op = 13 ∨ 13 < x.op by omega) with hc | hc | hc | hc | hc | hc | hc
      all_goals
        have hh : Hid (hit x = decide (9 ≤ x.op ∧ x.op ≤ 13)) := rfl
        have HC := Lib.hid hc
        have c9 : (x.op == 9) = decide (x.op = 9) := by rw [Bool.eq_iff_iff]; simp
        clear c9
      all_goals
        go_wp2_with fail
        go_round
        case rel => exact ⟨k + 1, by omega, by go_num, by rw [HS.out, hh.out]; have := HC.out; first | (rw [decide_eq_true (by omega)]; rfl) | (rw [decide_eq_false (by omega)]; simp)⟩
        case measure => simp [intOf]; omega
    · obtain rfl : k = len := by omega
      have HE : Hid (ps.take k = ps) := List.take_of_length_le (by have := HP.out.len; omega)
      go_wp2
      go_ret
      exact ⟨ret_int (by rw [HE.out]), rfl⟩

theorem law (a : Option Addr) (len cap : Nat) (ps : List B.Ins) (w : World) (hp : ProgAt w a len ps) (hr : len * 40 ≤ 140737488351232) :
    Calls Try.prog 3 #[.slice a len cap] w fun e w' => e = .returned (.bool true) ∧ Below w.heap.size w w' := by
  have HP := Lib.hid hp
  clear hp
  go_enter Try.func3, Try.ntmps3
  go_wp2_with fail
  refine (lent_any a len cap ps _ HP.out hr).mono ?_
  rintro e w1 ⟨ao, cap', rfl, hown, hb⟩
  have HO := Lib.hid hown
  have HB := Lib.hid hb
  clear hown hb
  go_wp2_with fail
  refine (traffic_any ao len cap' ps _ (HO.out.ahead HP.out.len) (by omega)).mono ?_
  rintro e w2 ⟨rfl, hb2⟩
  have HO2 := Lib.hid (HO.out.kept hb2)
  have HB2 := Lib.hid (HB.out.trans (hb2.mono (HB.out.size)))
  clear hb2
  go_wp2_with fail
  refine (ref_any a len cap ps _ (HP.out.below HB2.out (Nat.le_refl _)) (by omega)).mono ?_
  rintro e w3 ⟨rfl, rfl⟩
  go_wp2_with fail
  refine (kept_any ao cap' a len cap _ ps _ HO2.out (HP.out.below HB2.out (Nat.le_refl _)) hr).mono ?_
  rintro e w4 ⟨rfl, hb4⟩
  have HB4 := Lib.hid (HB2.out.trans (hb4.mono (HB2.out.size)))
  clear hb4
  go_wp2
  go_ret
  exact ⟨rfl, HB4.out⟩

theorem own : ownKnob Try.prog.godebug = none := by kernel_rfl
theorem laidOut : laidOutB Try.prog = true := by kernel_rfl

set_option maxRecDepth 100000 in
theorem lifted (os : Os) (started : os.Started) (H : Type) (enc : TypeId × Value → H) :
    ReturnsInHanded {} Try.checked os 3 .any (Rows.optTrafficSpec.pre6 enc Try.prog Try.f3 Rows.optTrafficRow.domain false) (Rows.optTrafficSpec.post enc Try.prog Try.f3 false true false false) := by
  refine returnsInHanded_of_change_sized (C := Try.checked) own started (by kernel_rfl) Try.func3
    (ChangeSpec.witness6 (enc := enc) (C := Try.checked) false ⟨#[], #[.slice none 0 0], []⟩ 8 (by kernel_rfl) (by kernel_rfl) (by kernel_rfl) (by kernel_rfl)) ?_
  intro W base args ds gs before hval0 hW hcnd hsz0 _
  have hval : ∀ (j : Nat) t v, Try.f3.params[j]? = some t → args[j]? = some v → Value.okWide Try.prog W .any base t v := hval0
  have hsz : (DataW.weightsEach Try.prog (Try.f3.params.toList ++ Rows.optTrafficSpec.plain.varTypes Try.prog) (ds ++ gs)).all (· ≤ reachBytes) = true := hsz0
  have hW' := hW
  obtain ⟨p, q, hA0, hV, rfl, hfz, hnd⟩ := hW
  have hA : DataW.TrodAll enc Try.prog W 0 (fun _ => true) true Try.f3.params.toList args.toList ds p := hA0
  rw [Try.params3] at hA hval hsz
  obtain ⟨v0, d0, rfl, rfl, h0⟩ := trodAll_one hA
  obtain ⟨rfl, rfl⟩ := trodVars_none hV
  obtain ⟨a0, len0, cap0, rfl⟩ := okWide_slice Try.underlying22 (hval 0 22 v0 rfl rfl)
  have k0 := h0
  obtain ⟨fuel, hf⟩ := h0
  have lt0 : ∀ x ∈ p, x.block < W.heap.size := by have := DataW.trod_lt fuel _ _ _ hf; exact this
  obtain ⟨ps, hp, _, hreach⟩ := open_prog hf
  have hr := hreach _ _ 0 hsz rfl rfl
  clear hA0 hval0 hsz0
  refine (law a0 len0 cap0 ps W hp hr).mono fun e W' ⟨he, bel⟩ => ?_
  subst he
  exact ⟨_, rfl, _, _, _, [], _, [], hW', trodAll_mk1 (shut_bool Try.underlying4 _), trodAll_mk1 (Below.trod laidOut (by kernel_rfl) (of_decide_eq_true (by kernel_rfl)) k0 bel lt0), rfl, bel.frame _, fun h => by cases h⟩

theorem over : Rows.optTrafficRow.holds Try.pinned (OpenSpec.ofChange Rows.optTrafficSpec) :=
  OpenClaim.holds_of_wide 3 Try.f3 rfl rfl rfl rfl rfl rfl rfl ⟨rfl, rfl, rfl, rfl, rfl⟩ rfl rfl rfl rfl rfl (by kernel_rfl) Try.func3 (by kernel_rfl)
    (of_decide_eq_true (by kernel_rfl)) (by unfold Func.isWrapper; first | (rw [if_pos (by decide +kernel)]; kernel_rfl) | (rw [if_neg (by decide +kernel)]; exact ⟨rfl, rfl⟩))
    (fun os started H enc _ => lifted os started H enc)

theorem proved : Rows.OptTrafficSaid := over
#print axioms proved

end LawTraffic
end Go.Proofs.Ytiljclmhcoppeaa
