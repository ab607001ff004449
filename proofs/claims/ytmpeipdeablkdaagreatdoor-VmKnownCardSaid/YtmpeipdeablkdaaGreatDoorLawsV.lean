/- VmEnds, as a contract: the law of every input, without card. -/
/- VmBytes, as a contract: the law of every input, without card. -/
/- VmBehind, as a contract: the law of every input, without card. -/
/- VmSkips, as a contract: the law of every input, without card. -/
/- VmNamed, as a contract: the law of every input, without card. -/
import Derived.Test.YtmpeipdeablkdaaGreatDoorVmQ
import Derived.Test.YtmpeipdeablkdaaGreatDoorPlainV
import Derived.Test.YtmpeipdeablkdaaGreatDoorMore
import Derived.Deep.QuietTactic
import Derived.BigQuiet
import Derived.Test.YtmpeipdeablkdaaGreatDoorVmU
import Derived.Deep.MidRow
import Derived.Deep.RegionLaw
namespace Go.Proofs.YtmpeipdeablkdaaGreatDoor
open Go.RowKit Go.Proofs.YtmpeipdeablkdaaGreatDoor.Code

namespace LawVmEnds

attribute [local go_sem ↓] Go.wp_at_zero Go.wp_at_succ

theorem six {w w1 : World} {C : Array Value} {t : TypeId} (hb : Below (w.heap.size + 1) (w.alloc (.cells C t)) w1) (j : Nat) : w1.cell? ⟨w.heap.size, j, none⟩ = C[j]? :=
 (hb.cell (p := ⟨w.heap.size, j, none⟩) (by simp)).trans (cell_of_row _ _ _ _ _ _ (heap_alloc_new w _))
set_option maxRecDepth 100000 in
set_option maxHeartbeats 3200000 in
theorem law (a0 : Option Addr) (len0 cap0 : Nat) (ps0 : List B.Ins) (pa1 : Option Addr) (pn1 pc1 : Nat) (pay1 : List Nat) (ia2 : Option Addr) (im2 ic2 : Nat) (inp2 : List Nat) (w : World) (hp0 : ProgAt w a0 len0 ps0) (hwf0 : ∀ y ∈ ps0, y.Wf) (hl0 : len0 * 40 ≤ 140737488351232) (hn0 : a0 = none → cap0 = 0) (hy1 : ListAt w pa1 pn1 (pay1.map u8V)) (hb1 : B.Bytes pay1) (hyn1 : pa1 = none → pc1 = 0) (hyl1 : pn1 ≤ 9223372036854775807) (hu2 : ListAt w ia2 im2 (inp2.map u64V)) (hw2 : B.Words inp2) (hun2 : ia2 = none → ic2 = 0) (hul2 : im2 ≤ 9223372036854775807) (hR : Tabs w) :
    Calls Tryz.prog 34 #[.slice a0 len0 cap0, .slice pa1 pn1 pc1, .slice ia2 im2 ic2] w (BoolOut true w) := by
 have _U0 := Lib.hid hn0
 have _U1 := Lib.hid hyn1
 have _U2 := Lib.hid hun2
 have _U3 := Lib.hid hyl1
 have HP := Lib.hid hp0
 have HWF := Lib.hid hwf0
 have HY := Lib.hid hy1
 have HBY := Lib.hid hb1
 have HU := Lib.hid hu2
 have HW := Lib.hid hw2
 have HR := Lib.hid hR
 have hlw : len0 ≤ 9223372036854775807 := by omega
 clear hp0 hwf0 hl0 hn0 hy1 hb1 hyn1 hyl1 hu2 hw2 hun2 hR
 by_cases hm : B.MayRun ps0 pn1 im2
 ·have HM := Lib.hid hm
  have hlen : len0 ≤ 16384 := by rw [HP.out.len]; exact hm.len
  have him : im2 ≤ 64 := by have := hm.hslots; omega
  have hst : (B.run ps0 inp2 0 (B.start pay1 im2)).steps ≤ len0 := by have := B.steps_le ps0 inp2 0 (B.start pay1 im2); have := HP.out.len; omega
  have HH : Hid (∀ i, i < im2 → (B.run ps0 inp2 0 (B.start pay1 im2)).st.has.getD i false = false → (B.run ps0 inp2 0 (B.start pay1 im2)).st.out.getD i 0 = 0) := (B.run_lens ps0 inp2 pay1 im2).2.2
  have HK : Hid (∀ k, (B.run ps0 inp2 0 (B.start pay1 im2)).failed = some k → 0 ≤ k ∧ k < (im2 : Int)) := fun k hk => B.run_slot hm 0 _ k hk
  clear hm
  generalize hq : B.run ps0 inp2 0 (B.start pay1 im2) = r at hst HH HK
  have HQ := Lib.hid hq
  clear hq
  go_enter Tryz.func34, Tryz.ntmps34
  go_wp2_with fail
  refine (program_yes a0 len0 cap0 ps0 pn1 im2 _ HP.out HWF.out HR.out hlw HM.out).mono ?_
  rintro e w1 ⟨rfl, hb1⟩
  have HB1 := Lib.hid hb1
  have hs1 := hb1.size
  clear hb1
  go_wp2_with fail
  cases hf : r.failed with
  | none =>
   have HF := Lib.hid hf
   clear hf
   refine (run_go_any a0 pa1 ia2 len0 cap0 pn1 pc1 im2 ic2 ps0 pay1 inp2 _ (HP.out.below HB1.out (Nat.le_refl _)) HWF.out (HR.out.below HB1.out (Nat.le_refl _)) hlw HM.out (HY.out.below HB1.out (Nat.le_refl _)) (HU.out.below HB1.out (Nat.le_refl _)) HBY.out HW.out HQ.out HF.out).mono ?_
   rintro e w2 ⟨pa, pc, oa, oc, ha, hc, rfl, hok, l1, l2, l3, hb2⟩
   have HB2 := Lib.hid (HB1.out.trans (hb2.mono hs1))
   have hs2 := HB2.out.size
   have HOK := Lib.hid hok
   have L2 := Lib.hid l2
   have L3 := Lib.hid l3
   clear hb2 l1 l2 l3 hok
   go_wp2_with fail
   have hb3 := (Below.refl w2.heap.size w2).alloc (Nat.le_refl _) (.cells #[.bool false, .int .i64 0, .slice pa pn1 pc, .slice oa im2 oc, .slice ha im2 hc, .int .i64 (r.steps : Int)] 52)
   refine (works14_any _ ((HR.out.below HB2.out (Nat.le_refl _)).below hb3 (Nat.le_refl _))).mono ?_
   rintro e w4 ⟨rfl, hb4⟩
   have HB24 := Lib.hid (hb3.trans (hb4.mono (by simp)))
   have HB4 := Lib.hid (HB2.out.trans (HB24.out.mono hs2))
   have hk := fun j => six (by simpa using hb4) j
   have x0 := (hk 0).trans rfl
   have x1 := (hk 1).trans rfl
   have x2 := (hk 2).trans rfl
   have x3 := (hk 3).trans rfl
   have x4 := (hk 4).trans rfl
   have x5 := (hk 5).trans rfl
   clear hb3 hb4 hk
   go_wp2_with fail
   refine (num_nil _).mono ?_
   rintro e w5 ⟨rfl, rfl⟩
   go_wp2_with fail
   refine (num_nil _).mono ?_
   rintro e w5 ⟨rfl, rfl⟩
   go_wp2_with fail
   go_loop [10] (fun i => ∃ k : Nat, k ≤ im2 ∧ i = .int .i64 k) (fun i => im2 - (intOf i).toNat)
   case atStart => exact ⟨0, Nat.zero_le _, rfl⟩
   case round =>
    obtain ⟨k, hk, rfl⟩ := hrel
    by_cases hlt : k < im2
    ·have hol : r.st.out.length = im2 := HOK.out.outl
     have hhl : r.st.has.length = im2 := HOK.out.hasl
     have ho : (r.st.out.map u64V)[k]? = some (u64V (r.st.out.getD k 0)) := by rw [List.getElem?_map, List.getD_eq_getElem?_getD, List.getElem?_eq_getElem (by omega)]; rfl
     have hh : (r.st.has.map Value.bool)[k]? = some (.bool (r.st.has.getD k false)) := by rw [List.getElem?_map, List.getD_eq_getElem?_getD, List.getElem?_eq_getElem (by omega)]; rfl
     obtain ⟨b1, o1, rfl, hl1, hc1⟩ := L2.out.at_ k _ ho
     obtain ⟨b2, o2, rfl, hl2, hc2⟩ := L3.out.at_ k _ hh
     replace hc1 := (HB24.out.cell (p := ⟨b1, o1 + k, none⟩) hl1).trans hc1
     replace hc2 := (HB24.out.cell (p := ⟨b2, o2 + k, none⟩) hl2).trans hc2
     have hz := HH.out k hlt
     clear hol hhl ho hh hl1 hl2
     cases hv : r.st.has.getD k false with
     | true =>
      rw [hv] at hc2
      clear hv hz hc1
      go_wp2_with fail
      go_round
      case rel => exact ⟨k + 1, by omega, by go_num⟩
      case measure => simp [intOf]; omega
     | false =>
      rw [hz hv] at hc1
      rw [hv] at hc2
      unfold u64V at hc1
      clear hv hz
      go_wp2_with fail
      go_round
      case rel => exact ⟨k + 1, by omega, by go_num⟩
      case measure => simp [intOf]; omega
    ·obtain rfl : k = im2 := by omega
     go_wp2_with fail
     go_ret
     exact ⟨rfl, HB4.out⟩
  | some k =>
   have HF := Lib.hid hf
   have hkk := HK.out k hf
   have hk1 : ¬ (k < 0) := by omega
   have hk2 := hkk.1
   have hk3 := hkk.2
   clear hf hkk
   refine (run_fail_any a0 pa1 ia2 len0 cap0 pn1 pc1 im2 ic2 ps0 pay1 inp2 _ (HP.out.below HB1.out (Nat.le_refl _)) HWF.out (HR.out.below HB1.out (Nat.le_refl _)) hlw HM.out (HY.out.below HB1.out (Nat.le_refl _)) (HU.out.below HB1.out (Nat.le_refl _)) HBY.out HW.out HQ.out HF.out).mono ?_
   rintro e w2 ⟨rfl, hb2⟩
   have HB2 := Lib.hid (HB1.out.trans (hb2.mono hs1))
   have hs2 := HB2.out.size
   clear hb2
   go_wp2_with fail
   have hb3 := (Below.refl w2.heap.size w2).alloc (Nat.le_refl _) (.cells #[.bool true, .int .i64 k, .slice none 0 0, .slice none 0 0, .slice none 0 0, .int .i64 (r.steps : Int)] 52)
   refine (works14_any _ ((HR.out.below HB2.out (Nat.le_refl _)).below hb3 (Nat.le_refl _))).mono ?_
   rintro e w4 ⟨rfl, hb4⟩
   have HB4 := Lib.hid (HB2.out.trans ((hb3.trans (hb4.mono (by simp))).mono hs2))
   have hk := fun j => six (by simpa using hb4) j
   have x0 := (hk 0).trans rfl
   have x1 := (hk 1).trans rfl
   have x2 := (hk 2).trans rfl
   have x3 := (hk 3).trans rfl
   have x4 := (hk 4).trans rfl
   have x5 := (hk 5).trans rfl
   clear hb3 hb4 hk
   go_wp2_with fail
   refine (num_nil _).mono ?_
   rintro e w5 ⟨rfl, rfl⟩
   go_wp2_with fail
   refine (num_nil _).mono ?_
   rintro e w5 ⟨rfl, rfl⟩
   go_wp2_with fail
   go_ret
   exact ⟨rfl, HB4.out⟩
 ·have HM := Lib.hid hm
  obtain ⟨T, v, he⟩ := Er.shape _ (progEr_no hm)
  have HE := Lib.hid he
  clear hm he
  go_enter Tryz.func34, Tryz.ntmps34
  go_wp2_with fail
  refine (program_er a0 len0 cap0 ps0 pn1 im2 _ HP.out HWF.out HR.out hlw).mono ?_
  rintro e w1 ⟨rfl, hb1⟩
  rw [HE.out]
  have HB1 := Lib.hid hb1
  have hs1 := hb1.size
  clear hb1
  go_wp2_with fail
  refine (run_no a0 pa1 ia2 len0 cap0 pn1 pc1 im2 ic2 ps0 _ (HP.out.below HB1.out (Nat.le_refl _)) HWF.out (HR.out.below HB1.out (Nat.le_refl _)) hlw HM.out).mono ?_
  rintro e w2 ⟨rfl, hb2⟩
  rw [HE.out]
  have HB2 := Lib.hid (HB1.out.trans (hb2.mono hs1))
  have hs2 := HB2.out.size
  clear hb2
  go_wp2_with fail
  have hb3 := (Below.refl w2.heap.size w2).alloc (Nat.le_refl _) (.cells #[.bool false, .int .i64 0, .slice none 0 0, .slice none 0 0, .slice none 0 0, .int .i64 0] 52)
  refine (works14_any _ ((HR.out.below HB2.out (Nat.le_refl _)).below hb3 (Nat.le_refl _))).mono ?_
  rintro e w4 ⟨rfl, hb4⟩
  have HB24 := Lib.hid (hb3.trans (hb4.mono (by simp)))
  have HB4 := Lib.hid (HB2.out.trans (HB24.out.mono hs2))
  have hs4 := HB4.out.size
  have HK4 : Hid (∀ j : Nat, w4.cell? ⟨w2.heap.size, j, none⟩ = (#[.bool false, .int .i64 0, .slice none 0 0, .slice none 0 0, .slice none 0 0, .int .i64 0] : Array Value)[j]?) := fun j => six (by simpa using hb4) j
  have hs24 : w2.heap.size + 1 ≤ w4.heap.size := by have := hb4.size; simpa using this
  clear hb3 hb4
  go_wp2_with fail
  have hc1 := num_any (progEr ps0 pn1 im2) (progEr_ok _ _ _) w4
  rw [HE.out] at hc1
  refine hc1.mono ?_
  rintro e w5 ⟨rfl, hb5⟩
  have HB5 := Lib.hid (HB4.out.trans (hb5.mono hs4))
  have HK5 : Hid (∀ j : Nat, w5.cell? ⟨w2.heap.size, j, none⟩ = (#[.bool false, .int .i64 0, .slice none 0 0, .slice none 0 0, .slice none 0 0, .int .i64 0] : Array Value)[j]?) := fun j => (hb5.cell (p := ⟨w2.heap.size, j, none⟩) (by show w2.heap.size < w4.heap.size; omega)).trans (HK4.out j)
  have hs5 := HB5.out.size
  have hs25 : w2.heap.size + 1 ≤ w5.heap.size := by have := hb5.size; omega
  clear hb5 hc1
  go_wp2_with fail
  have hc1 := num_any (progEr ps0 pn1 im2) (progEr_ok _ _ _) w5
  rw [HE.out] at hc1
  refine hc1.mono ?_
  rintro e w6 ⟨rfl, hb6⟩
  have HB6 := Lib.hid (HB5.out.trans (hb6.mono hs5))
  have hk := fun j : Nat => (hb6.cell (p := ⟨w2.heap.size, j, none⟩) (by show w2.heap.size < w5.heap.size; omega)).trans (HK5.out j)
  have x0 := (hk 0).trans rfl
  have x1 := (hk 1).trans rfl
  have x2 := (hk 2).trans rfl
  have x3 := (hk 3).trans rfl
  have x4 := (hk 4).trans rfl
  have x5 := (hk 5).trans rfl
  clear hb6 hc1 hk
  go_wp2_with fail
  go_ret
  exact ⟨rfl, HB6.out⟩

end LawVmEnds
end Go.Proofs.YtmpeipdeablkdaaGreatDoor

namespace Go.Proofs.YtmpeipdeablkdaaGreatDoor
open Go.RowKit Go.Proofs.YtmpeipdeablkdaaGreatDoor.Code

namespace LawVmBytes

attribute [local go_sem ↓] Go.wp_at_zero Go.wp_at_succ

theorem bytes_facts (big : Bool) {b k v : Nat} {pay : List Nat} (h2 : b + k ≤ pay.length) (h8 : pay.length ≤ 8) (hp : B.Bytes pay) :
    ∃ st o0 o1, B.run (B.bytesProg big b k) [v, 0] 0 (B.start pay 2) = ⟨none, st, 6⟩ ∧ st.out = [o0, o1] ∧ o0 = B.low v (8 * k) ∧ (∀ i, i < k → o0 / 2 ^ (8 * i) % 256 = o1 / 2 ^ (8 * (k - 1 - i)) % 256) ∧
     (∀ i, i < b ∨ b + k ≤ i → st.pay[i]? = pay[i]?) ∧ o0 < 18446744073709551616 ∧ o1 < 18446744073709551616 := by
 obtain ⟨r, hr⟩ := B.bytes_run big (v := v) h2
 have hl : ((pay.drop b).take k).length = k := B.part_len h2
 have hpb : B.Bytes ((pay.drop b).take k) := B.bytes_take (B.bytes_drop hp b) k
 have hn : (B.storeX' big v ((pay.drop b).take k)).length = k := by unfold B.storeX'; cases big <;> simp [B.storeL_length, B.storeB_length, hl] <;> omega
 have hnb : B.Bytes (B.storeX' big v ((pay.drop b).take k)) := by
  unfold B.storeX'
  cases big
  ·exact B.storeL_bytes _ _ _ _ hpb
  ·exact B.storeB_bytes _ _ _ hpb
 have hlow : B.low v (8 * k) = v % 2 ^ (8 * k) := B.low_le (by omega)
 have hlt := B.load_lt64 hnb (by omega)
 refine ⟨_, _, _, hr, rfl, ?_, ?_, ?_, ?_, ?_⟩
 ·rw [hlow]
  cases big
  ·have := B.loadL_store (v := v) (l := (pay.drop b).take k) (by omega)
   rw [hl] at this
   simpa [B.storeX'] using this
  ·have := B.loadB_store (v := v) (l := (pay.drop b).take k) (by omega)
   rw [hl] at this
   simpa [B.storeX'] using this
 ·intro i hi
  generalize B.storeX' big v ((pay.drop b).take k) = new at hn hnb
  cases big
  ·have hx : new[i]? = some (new[i]'(by omega)) := List.getElem?_eq_getElem _
   have e1 := B.loadL_byte new i _ hnb hx
   have e2 := B.loadB_byte new i _ hnb hx
   have e3 : new.length - 1 - i = k - 1 - i := by omega
   simp only [e3] at e2
   simp only [Bool.false_eq_true, if_false]
   exact e1.trans e2.symm
  ·have hx : new[k - 1 - i]? = some (new[k - 1 - i]'(by omega)) := List.getElem?_eq_getElem _
   have e1 := B.loadL_byte new _ _ hnb hx
   have e2 := B.loadB_byte new _ _ hnb hx
   have e3 : new.length - 1 - (k - 1 - i) = i := by omega
   simp only [e3] at e2
   simp only [if_true]
   exact e2.trans e1.symm
 ·intro i hi
  show (B.patch pay b _)[i]? = _
  rw [B.patch_get (by rw [hn]; exact h2), hn, if_neg (by omega)]
 ·cases big
  ·exact hlt.1
  ·exact hlt.2
 ·cases big
  ·exact hlt.2
  ·exact hlt.1

theorem low8 (v k : Nat) (w : World) (hk : 8 * k ≤ 64) (hv : v < 18446744073709551616) {m : Nat} (hm : B.low v (8 * k) = m) : Calls Tryz.prog 79 #[.int .u64 v, .int .i64 (8 * (k : Int))] w (fun e w' => e = .returned (.int .u64 (m : Int)) ∧ w' = w) := by
 have h := low_any v (8 * k) w hk hv
 rw [Int.natCast_mul] at h
 refine h.mono ?_
 rintro e w' ⟨rfl, rfl⟩
 exact ⟨by rw [hm], rfl⟩
theorem right_wf {x : B.Ins} (h : x.right = true) : x.Wf := by
 have hb := B.right_bounds h
 refine ⟨⟨?_, ?_⟩, ⟨?_, ?_⟩, ⟨?_, ?_⟩, ⟨?_, ?_⟩, ⟨?_, ?_⟩⟩ <;> omega

theorem still_skip {P : Program} {ops : Array Oper} {w : World} {Q : Act → Prop} {o : Oper} {rest : List Oper} {a : Act} (hw : Region.wanted o (yielded ops a.tmps) = false) (h : wpStill P ops w Q rest (a.put o.dst undef)) : wpStill P ops w Q (o :: rest) a := by
 unfold wpStill
 rw [if_neg (by simp [hw])]
 exact h

theorem still_past {P : Program} {ops : Array Oper} {w : World} {Q : Act → Prop} {o : Oper} {rest : List Oper} {a : Act} (hw : Region.wanted o (yielded ops a.tmps) = false) (h : ∀ K : Act → Prop, (∀ a, wpStill P ops w Q rest a → K a) → K (a.put o.dst undef)) : wpStill P ops w Q (o :: rest) a :=
 still_skip hw (h _ (fun _ h => h))

theorem still_gen {P : Program} {ops : Array Oper} {w : World} {Q : Act → Prop} {l : List Oper} {a : Act} (h : ∀ Q' : Act → Prop, (∀ a', Q a' → Q' a') → wpStill P ops w Q' l a) : wpStill P ops w Q l a := h Q (fun _ h => h)

theorem and_byte (o n : Nat) (h : o < 18446744073709551616) : bits .and .u64 ((o : Int) / 2 ^ n) 255 = ((o / 2 ^ n % 256 : Nat) : Int) := by
 have h1 : o / 2 ^ n < 18446744073709551616 := Nat.lt_of_le_of_lt (Nat.div_le_self _ _) h
 have h2 := u64_and_nat (o / 2 ^ n) 255 h1 (by omega)
 rw [Nat.and_two_pow_sub_one_eq_mod (o / 2 ^ n) 8] at h2
 rw [Int.natCast_ediv, Int.natCast_pow] at h2
 exact h2
set_option maxRecDepth 100000 in
set_option maxHeartbeats 6400000 in
theorem law_f (pa0 : Option Addr) (pn0 pc0 : Nat) (pay0 : List Nat) (v1 : Nat) (from1 num1 : Int) (w : World) (hy0 : ListAt w pa0 pn0 (pay0.map u8V)) (hb0 : B.Bytes pay0) (hyn0 : pa0 = none → pc0 = 0) (hyl0 : pn0 ≤ 9223372036854775807) (hv1 : v1 < 18446744073709551616) (hf1 : B.In64 from1) (hm1 : B.In64 num1) (hR : Tabs w) (hsz : 1 ≤ pn0 ∧ pn0 ≤ 8) :
    Calls Tryz.prog 35 #[.slice pa0 pn0 pc0, .agg #[.int .u64 (v1 : Int), .int .i64 from1, .int .i64 num1, .bool false]] w (BoolOut true w) := by
 have _U0 := Lib.hid hyn0
 have _U1 := Lib.hid hyl0
 have HY := Lib.hid hy0
 have HBY := Lib.hid hb0
 have HR := Lib.hid hR
 have HV := Lib.hid hv1
 have HBX := Lib.hid ((Below.refl w.heap.size w).alloc (Nat.le_refl _) (.cells #[.int .u64 (v1 : Int), .int .i64 from1, .int .i64 num1, .bool false] 61))
 have HBK := Lib.hid (heap_alloc_new w (.cells #[.int .u64 (v1 : Int), .int .i64 from1, .int .i64 num1, .bool false] 61))
 clear hy0 hb0 hyn0 hR hv1
 obtain ⟨hs1, hs8⟩ := hsz
 have hr1 := pickV_range from1 (pn0 : Int) (by omega)
 obtain ⟨b, hb⟩ : ∃ b : Nat, pickV from1 (pn0 : Int) = (b : Int) := ⟨(pickV from1 (pn0 : Int)).toNat, by omega⟩
 have hp1 := pick_any from1 (pn0 : Int) hf1 (by omega) (by omega)
 rw [hb] at hp1 hr1
 have HPK := Lib.hid hp1
 have hr2 := pickV_range num1 ((pn0 : Int) - (b : Int)) (by omega)
 have hp2 := pick_any num1 ((pn0 : Int) - (b : Int)) hm1 (by omega) (by omega)
 generalize pickV num1 ((pn0 : Int) - (b : Int)) = j at hr2 hp2
 have HPK2 := Lib.hid hp2
 obtain ⟨k, hk⟩ : ∃ k : Nat, 1 + j = (k : Int) := ⟨(1 + j).toNat, by omega⟩
 have hk1 : 1 ≤ k := by omega
 have hbk : b + k ≤ pn0 := by omega
 obtain ⟨j0, j1⟩ := hr2
 clear hb hp1 hp2 hr1 hf1 hm1
 have hln : pn0 = pay0.length := by have := HY.out.len; rwa [List.length_map] at this
 obtain ⟨st, o0, o1, hrun, hout, hlow, hbits, hkeep, hlt0, hlt1⟩ := bytes_facts false (b := b) (k := k) (v := v1) (pay := pay0) (by omega) (by omega) HBY.out
 have HRUN := Lib.hid hrun
 have HOUT := Lib.hid hout
 have HLOW := Lib.hid hlow.symm
 have HBITS := Lib.hid hbits
 have HKEEP := Lib.hid hkeep
 have HL0 := Lib.hid hlt0
 have HL1 := Lib.hid hlt1
 have HMR := Lib.hid (B.bytes_mayRun false (size := pn0) hk1 hbk hs8)
 clear hrun hout hlow hbits hkeep hln hlt0 hlt1
 go_enter Tryz.func35, Tryz.ntmps35
 go_wp2_with fail
 refine (works14_any _ (HR.out.below HBX.out (Nat.le_refl _))).mono ?_
 rintro e w4 ⟨rfl, hb4⟩
 have HB4 := Lib.hid (HBX.out.trans (hb4.mono (by simp)))
 have hG := (hb4.block w.heap.size (by simp)).trans HBK.out
 have x0 : w4.cell? ⟨w.heap.size, 0, none⟩ = some (.int .u64 (v1 : Int)) := (cell_of_row _ _ _ _ _ _ hG).trans rfl
 have x1 : w4.cell? ⟨w.heap.size, 1, none⟩ = some (.int .i64 from1) := (cell_of_row _ _ _ _ _ _ hG).trans rfl
 have x2 : w4.cell? ⟨w.heap.size, 2, none⟩ = some (.int .i64 num1) := (cell_of_row _ _ _ _ _ _ hG).trans rfl
 have x3 : w4.cell? ⟨w.heap.size, 3, none⟩ = some (.bool false) := (cell_of_row _ _ _ _ _ _ hG).trans rfl
 have hlt4 : w.heap.size < w4.heap.size := lt_of_block hG
 have hs4 := HB4.out.size
 have HG4 := Lib.hid hG
 clear hb4 hG
 go_wp2_with fail
 refine (HPK.out _).mono ?_
 rintro e w5 ⟨rfl, rfl⟩
 go_wp2_with fail
 refine (HPK2.out _).mono ?_
 rintro e w5 ⟨rfl, rfl⟩
 have hlt5 : w.heap.size < w5.heap.size + 1 := by omega
 have hlt6 : w.heap.size < w5.heap.size + 1 + 1 := by omega
 have hne4 : ¬ (w.heap.size = w5.heap.size) := by omega
 have hne5 : ¬ (w.heap.size = w5.heap.size + 1) := by omega
 have hne6 : ¬ (w.heap.size = w5.heap.size + 1 + 1) := by omega
 go_wp2_with fail
 obtain ⟨w6, hw6⟩ : ∃ w6, (((w5.alloc (.cells #[.int .i64 11, .int .i64 0, .int .i64 (b : Int), .int .i64 (k : Int), .int .u64 0] 24)).alloc (.cells #[.int .i64 9, .int .i64 1, .int .i64 (b : Int), .int .i64 (k : Int), .int .u64 0] 24)).alloc (.cells #[.int .i64 10, .int .i64 2, .int .i64 (b : Int), .int .i64 (k : Int), .int .u64 0] 24)) = w6 := ⟨_, rfl⟩
 have hb6 : Below w5.heap.size w5 w6 := by rw [← hw6]; exact (((Below.refl _ _).alloc (Nat.le_refl _) _).alloc (by simp) _).alloc (by simp; omega) _
 have hsz6 : w6.heap.size = w5.heap.size + 1 + 1 + 1 := by rw [← hw6]; simp
 rw [hw6]
 clear hw6
 have hp := progAt_new (B.bytesProg false b k) #[.int .i64 15, .int .i64 0, .int .i64 0, .int .i64 0, .int .u64 0, .int .i64 11, .int .i64 0, .int .i64 (b : Int), .int .i64 (k : Int), .int .u64 0, .int .i64 9, .int .i64 1, .int .i64 (b : Int), .int .i64 (k : Int), .int .u64 0, .int .i64 10, .int .i64 2, .int .i64 (b : Int), .int .i64 (k : Int), .int .u64 0, .int .i64 16, .int .i64 1, .int .i64 0, .int .i64 0, .int .u64 0, .int .i64 16, .int .i64 2, .int .i64 1, .int .i64 0, .int .u64 0] 6 24 w6 rfl rfl
 rw [hsz6] at hp
 have hu := listAt_new (([v1, 0] : List Nat).map u64V) #[.int .u64 (v1 : Int), .int .u64 0] 2 (w5.heap.size + 1 + 1 + 1 + 1) 22 (w6.alloc (.cells #[.int .i64 15, .int .i64 0, .int .i64 0, .int .i64 0, .int .u64 0, .int .i64 11, .int .i64 0, .int .i64 (b : Int), .int .i64 (k : Int), .int .u64 0, .int .i64 9, .int .i64 1, .int .i64 (b : Int), .int .i64 (k : Int), .int .u64 0, .int .i64 10, .int .i64 2, .int .i64 (b : Int), .int .i64 (k : Int), .int .u64 0, .int .i64 16, .int .i64 1, .int .i64 0, .int .i64 0, .int .u64 0, .int .i64 16, .int .i64 2, .int .i64 1, .int .i64 0, .int .u64 0] 24)) rfl rfl (by simp [hsz6])
 have hb7 : Below (w6.heap.size + 1) (w6.alloc (.cells #[.int .i64 15, .int .i64 0, .int .i64 0, .int .i64 0, .int .u64 0, .int .i64 11, .int .i64 0, .int .i64 (b : Int), .int .i64 (k : Int), .int .u64 0, .int .i64 9, .int .i64 1, .int .i64 (b : Int), .int .i64 (k : Int), .int .u64 0, .int .i64 10, .int .i64 2, .int .i64 (b : Int), .int .i64 (k : Int), .int .u64 0, .int .i64 16, .int .i64 1, .int .i64 0, .int .i64 0, .int .u64 0, .int .i64 16, .int .i64 2, .int .i64 1, .int .i64 0, .int .u64 0] 24)) ((w6.alloc (.cells #[.int .i64 15, .int .i64 0, .int .i64 0, .int .i64 0, .int .u64 0, .int .i64 11, .int .i64 0, .int .i64 (b : Int), .int .i64 (k : Int), .int .u64 0, .int .i64 9, .int .i64 1, .int .i64 (b : Int), .int .i64 (k : Int), .int .u64 0, .int .i64 10, .int .i64 2, .int .i64 (b : Int), .int .i64 (k : Int), .int .u64 0, .int .i64 16, .int .i64 1, .int .i64 0, .int .i64 0, .int .u64 0, .int .i64 16, .int .i64 2, .int .i64 1, .int .i64 0, .int .u64 0] 24)).alloc (.cells #[.int .u64 (v1 : Int), .int .u64 0] 22)) := (Below.refl _ _).alloc (by simp) _
 have hb57 : Below w5.heap.size w5 ((w6.alloc (.cells #[.int .i64 15, .int .i64 0, .int .i64 0, .int .i64 0, .int .u64 0, .int .i64 11, .int .i64 0, .int .i64 (b : Int), .int .i64 (k : Int), .int .u64 0, .int .i64 9, .int .i64 1, .int .i64 (b : Int), .int .i64 (k : Int), .int .u64 0, .int .i64 10, .int .i64 2, .int .i64 (b : Int), .int .i64 (k : Int), .int .u64 0, .int .i64 16, .int .i64 1, .int .i64 0, .int .i64 0, .int .u64 0, .int .i64 16, .int .i64 2, .int .i64 1, .int .i64 0, .int .u64 0] 24)).alloc (.cells #[.int .u64 (v1 : Int), .int .u64 0] 22)) := (hb6.alloc (by omega) _).trans (hb7.mono (by omega))
 have hp7 := hp.below hb7 (by simp)
 obtain ⟨w7, hw7⟩ : ∃ w7, (w6.alloc (.cells #[.int .i64 15, .int .i64 0, .int .i64 0, .int .i64 0, .int .u64 0, .int .i64 11, .int .i64 0, .int .i64 (b : Int), .int .i64 (k : Int), .int .u64 0, .int .i64 9, .int .i64 1, .int .i64 (b : Int), .int .i64 (k : Int), .int .u64 0, .int .i64 10, .int .i64 2, .int .i64 (b : Int), .int .i64 (k : Int), .int .u64 0, .int .i64 16, .int .i64 1, .int .i64 0, .int .i64 0, .int .u64 0, .int .i64 16, .int .i64 2, .int .i64 1, .int .i64 0, .int .u64 0] 24)).alloc (.cells #[.int .u64 (v1 : Int), .int .u64 0] 22) = w7 := ⟨_, rfl⟩
 rw [hw7] at hu hb57 hp7
 rw [hw7]
 have HU := Lib.hid hu
 have HP := Lib.hid hp7
 have HB57 := Lib.hid hb57
 have HB7 := Lib.hid (HB4.out.trans (hb57.mono hs4))
 have hs57 := hb57.size
 clear hp hu hb7 hb57 hp7 hw7 hb6 hsz6 x0 x1 x2 x3 hlt5 hlt6 hne4 hne5 hne6
 refine (run_go_any _ pa0 _ 6 _ pn0 pc0 2 _ (B.bytesProg false b k) pay0 [v1, 0] _ HP.out (fun y hy => right_wf (HMR.out.ok.mem y hy)) (HR.out.below HB7.out (Nat.le_refl _)) (by omega) HMR.out (HY.out.below HB7.out (Nat.le_refl _)) HU.out HBY.out (fun x hx => by simp at hx; rcases hx with rfl | rfl; exact HV.out; omega) HRUN.out rfl).mono ?_
 rintro e w8 ⟨pa, pc, oa, oc, ha, hc, rfl, hok, l1, l2, l3, hb8⟩
 simp only at l1 l2
 rw [HOUT.out] at l2
 obtain ⟨ob, oo, rfl, hol, hoc⟩ := l2.at_ 0 (u64V o0) rfl
 obtain ⟨ob', oo', hoe, _, hoc'⟩ := l2.at_ 1 (u64V o1) rfl
 simp only [Option.some.injEq, Addr.mk.injEq, and_true] at hoe
 obtain ⟨rfl, rfl⟩ := hoe
 have HB58 := Lib.hid (HB57.out.trans (hb8.mono hs57))
 have hb89 : Below w8.heap.size w8 (w8.alloc (.cells #[.bool false, .int .i64 0, .slice pa pn0 pc, .slice (some ⟨ob, oo, none⟩) 2 oc, .slice ha 2 hc, .int .i64 6] 52)) := (Below.refl _ _).alloc (Nat.le_refl _) _
 have hnew := heap_alloc_new w8 (.cells #[.bool false, .int .i64 0, .slice pa pn0 pc, .slice (some ⟨ob, oo, none⟩) 2 oc, .slice ha 2 hc, .int .i64 6] 52)
 have hs58 := HB58.out.size
 go_wp2_with fail
 obtain ⟨w9, hw9⟩ : ∃ w9, w8.alloc (.cells #[.bool false, .int .i64 0, .slice pa pn0 pc, .slice (some ⟨ob, oo, none⟩) 2 oc, .slice ha 2 hc, .int .i64 6] 52) = w9 := ⟨_, rfl⟩
 rw [hw9] at hb89 hnew
 rw [hw9]
 have HB59 := Lib.hid (HB58.out.trans (hb89.mono hs58))
 have HB9 := Lib.hid (HB4.out.trans (HB59.out.mono hs4))
 have L1 := Lib.hid (l1.below hb89 (Nat.le_refl _))
 have HC := Lib.hid (show w9.cell? ⟨ob, oo, none⟩ = some (.int .u64 (o0 : Int)) from (hb89.cell (p := ⟨ob, oo, none⟩) hol).trans hoc)
 have HC' := Lib.hid (show w9.cell? ⟨ob, oo + 1, none⟩ = some (.int .u64 (o1 : Int)) from (hb89.cell (p := ⟨ob, oo + 1, none⟩) hol).trans hoc')
 have HN9 := Lib.hid hnew
 have hob : ob < w9.heap.size := Nat.lt_of_lt_of_le hol hb89.size
 have hX9 : w8.heap.size < w9.heap.size := lt_of_block hnew
 have hb8 : w.heap.size < w9.heap.size := by have := HB59.out.size; omega
 have y0 : w9.cell? ⟨w.heap.size, 0, none⟩ = some (.int .u64 (v1 : Int)) := (HB59.out.cell (p := ⟨w.heap.size, 0, none⟩) hlt4).trans ((cell_of_row _ _ _ _ _ _ HG4.out).trans rfl)
 clear hok l1 l2 l3 hb89 hnew hw9 hoc hoc' hol hs57 hs58
 generalize w8.heap.size = X at *
 have r2 : w9.cell? ⟨X, 2, none⟩ = some (.slice pa pn0 pc) := (cell_of_row _ _ _ _ _ _ HN9.out).trans rfl
 have r3 : w9.cell? ⟨X, 3, none⟩ = some (.slice (some ⟨ob, oo, none⟩) 2 oc) := (cell_of_row _ _ _ _ _ _ HN9.out).trans rfl
 have HRF : Hid (Below w9.heap.size w9 w9.drew) := (Below.refl w9.heap.size w9).drew
 have c0 := HC.out
 have c1 := HC'.out
 have h8k : 8 * k ≤ 64 := by omega
 have ww : IntKind.i64.wrap (8 * (k : Int)) = 8 * (k : Int) := IntWalk.i64_in _ (by omega)
 refine wp_region_still_lit (by kernel_rfl) (by kernel_rfl) ?_
 refine still_gen (fun QQ hQQ => ?_)
 repeat (first | still_step | still_call (low8 v1 k _ h8k HV.out HLOW.out))
 refine wpStill_nil (hQQ _ ?_)
 clear hQQ QQ
 clear y0 r2 r3 c0 c1 ww
 go_wp2_with fail
 go_loopw [13] (fun i wr => ∃ m : Nat, m ≤ pn0 ∧ i = .int .i64 m ∧ Below w9.heap.size w9 wr) (fun i _ => pn0 - (intOf i).toNat)
 case atStart => exact ⟨0, by omega, rfl, HRF.out⟩
 case round =>
  obtain ⟨m, hm, rfl, hbr⟩ := hrel
  have HBR := Lib.hid hbr
  clear hbr
  by_cases hlt : m < pn0
  ·have m0 : (0 : Int) ≤ (m : Int) := by omega
   have m1 : (m : Int) < (pn0 : Int) := by omega
   have r2 : wr.cell? ⟨X, 2, none⟩ = some (.slice pa pn0 pc) := (HBR.out.cell (p := ⟨X, 2, none⟩) hX9).trans ((cell_of_row _ _ _ _ _ _ HN9.out).trans rfl)
   have ww : IntKind.i64.wrap ((b : Int) + (k : Int)) = (b : Int) + (k : Int) := IntWalk.i64_in _ (by omega)
   have WW := Lib.hid ww
   clear ww
   by_cases hin : b ≤ m ∧ m < b + k
   ·have d1 : decide (m < b) = false := by simp; omega
    have d2 : decide (b + k ≤ m) = false := by simp; omega
    have d2' : decide ((b : Int) + (k : Int) ≤ (m : Int)) = false := by simp; omega
    have HIN := Lib.hid hin
    clear hin
    go_wp2_with fail
    have ww := WW.out
    go_quiet (fail)
    clear ww
    go_wp2_with fail
    go_roundw
    case rel => exact ⟨m + 1, by omega, by go_num, belowN HBR.out _⟩
    case measure => simp [intOf]; omega
   ·have hln : pn0 = pay0.length := by have := HY.out.len; rwa [List.length_map] at this
    have hx : pay0[m]? = some (pay0[m]'(by omega)) := List.getElem?_eq_getElem _
    have hx2 := (HKEEP.out m (by omega)).trans hx
    generalize pay0[m]'(by omega) = q at hx hx2
    obtain ⟨b1, f1, rfl, hl1, hc1⟩ := HY.out.at_ m (u8V q) (by rw [List.getElem?_map, hx]; rfl)
    obtain ⟨b2, f2, rfl, hl2, hc2⟩ := L1.out.at_ m (u8V q) (by rw [List.getElem?_map, hx2]; rfl)
    replace hc1 := (HBR.out.cell (p := ⟨b1, f1 + m, none⟩) (Nat.lt_of_lt_of_le hl1 HB9.out.size)).trans ((HB9.out.cell (p := ⟨b1, f1 + m, none⟩) hl1).trans hc1)
    replace hc2 := (HBR.out.cell (p := ⟨b2, f2 + m, none⟩) hl2).trans hc2
    unfold u8V at hc1 hc2
    clear hx hx2 hln hl1 hl2
    by_cases hlo : m < b
    ·have d1 : decide (m < b) = true := by simp; omega
     have HIN := Lib.hid hin
     have HLO := Lib.hid hlo
     clear hin hlo
     go_wp2_with fail
     have ww := WW.out
     go_quiet (fail)
     clear ww
     go_wp2_with fail
     go_roundw
     case rel => exact ⟨m + 1, by omega, by go_num, belowN HBR.out _⟩
     case measure => simp [intOf]; omega
    ·have d1 : decide (m < b) = false := by simp; omega
     have d2 : decide (b + k ≤ m) = true := by simp; omega
     have d2' : decide ((b : Int) + (k : Int) ≤ (m : Int)) = true := by simp; omega
     have HIN := Lib.hid hin
     have HLO := Lib.hid hlo
     clear hin hlo
     go_wp2_with fail
     have ww := WW.out
     go_quiet (fail)
     clear ww
     go_wp2_with fail
     go_roundw
     case rel => exact ⟨m + 1, by omega, by go_num, belowN HBR.out _⟩
     case measure => simp [intOf]; omega
  ·obtain rfl : m = pn0 := by omega
   obtain ⟨wo, hwo⟩ : ∃ wo : World, wo = wr := ⟨_, rfl⟩
   subst hwo
   go_wp2_with fail
   go_loopw [14] (fun i wr => ∃ t : Nat, t ≤ k ∧ i = .int .i64 t ∧ Below w9.heap.size w9 wr) (fun i _ => k - (intOf i).toNat)
   case atStart => exact ⟨0, by omega, rfl, HBR.out⟩
   case round =>
    obtain ⟨t, ht, rfl, hbq⟩ := hrel
    have HBQ := Lib.hid hbq
    clear hbq
    by_cases htk : t < k
    ·have r3 : wr.cell? ⟨X, 3, none⟩ = some (.slice (some ⟨ob, oo, none⟩) 2 oc) := (HBQ.out.cell (p := ⟨X, 3, none⟩) hX9).trans ((cell_of_row _ _ _ _ _ _ HN9.out).trans rfl)
     have c0 : wr.cell? ⟨ob, oo, none⟩ = some (.int .u64 (o0 : Int)) := (HBQ.out.cell (p := ⟨ob, oo, none⟩) hob).trans HC.out
     have c1 : wr.cell? ⟨ob, oo + 1, none⟩ = some (.int .u64 (o1 : Int)) := (HBQ.out.cell (p := ⟨ob, oo + 1, none⟩) hob).trans HC'.out
     obtain ⟨u, hu⟩ : ∃ u : Nat, (k : Int) - 1 - (t : Int) = (u : Int) := ⟨k - 1 - t, by omega⟩
     have hbt := HBITS.out t htk
     have hu' : k - 1 - t = u := by omega
     rw [hu'] at hbt
     have e1 := and_byte o0 (8 * t) HL0.out
     have e2 := and_byte o1 (8 * u) HL1.out
     rw [← hbt] at e2
     have h64 : 8 * (t : Int) < 64 := by omega
     have h64' : 8 * (u : Int) < 64 := by omega
     have hk0 : 0 ≤ (k : Int) - 1 := by omega
     have w1 : IntKind.i64.wrap (8 * (t : Int)) = 8 * (t : Int) := IntWalk.i64_in _ (by omega)
     have w2 : IntKind.i64.wrap (8 * (u : Int)) = 8 * (u : Int) := IntWalk.i64_in _ (by omega)
     have w3 : IntKind.i64.wrap ((k : Int) - 1) = (k : Int) - 1 := IntWalk.i64_in _ (by omega)
     have w6' : (8 * (t : Int)).toNat = 8 * t := by omega
     have w7' : (8 * (u : Int)).toNat = 8 * u := by omega
     have w4' : IntKind.i64.wrap ((u : Int)) = (u : Int) := IntWalk.i64_in _ (by omega)
     have w5' : IntKind.i64.wrap ((k : Int) - 1 - (t : Int)) = (k : Int) - 1 - (t : Int) := IntWalk.i64_in _ (by omega)
     clear hu' hbt
     generalize o0 / 2 ^ (8 * t) % 256 = q at e1 e2
     go_wp2_with fail
     go_quiet (fail)
     go_wp2_with fail
     go_roundw
     case rel => exact ⟨t + 1, by omega, by go_num, belowN HBQ.out _⟩
     case measure => simp [intOf]; omega
    ·obtain rfl : t = k := by omega
     go_wp2_with fail
     go_ret
     exact ⟨rfl, HB9.out.trans (HBQ.out.mono HB9.out.size)⟩
set_option maxRecDepth 100000 in
set_option maxHeartbeats 6400000 in
theorem law_t (pa0 : Option Addr) (pn0 pc0 : Nat) (pay0 : List Nat) (v1 : Nat) (from1 num1 : Int) (w : World) (hy0 : ListAt w pa0 pn0 (pay0.map u8V)) (hb0 : B.Bytes pay0) (hyn0 : pa0 = none → pc0 = 0) (hyl0 : pn0 ≤ 9223372036854775807) (hv1 : v1 < 18446744073709551616) (hf1 : B.In64 from1) (hm1 : B.In64 num1) (hR : Tabs w) (hsz : 1 ≤ pn0 ∧ pn0 ≤ 8) :
    Calls Tryz.prog 35 #[.slice pa0 pn0 pc0, .agg #[.int .u64 (v1 : Int), .int .i64 from1, .int .i64 num1, .bool true]] w (BoolOut true w) := by
 have _U0 := Lib.hid hyn0
 have _U1 := Lib.hid hyl0
 have HY := Lib.hid hy0
 have HBY := Lib.hid hb0
 have HR := Lib.hid hR
 have HV := Lib.hid hv1
 have HBX := Lib.hid ((Below.refl w.heap.size w).alloc (Nat.le_refl _) (.cells #[.int .u64 (v1 : Int), .int .i64 from1, .int .i64 num1, .bool true] 61))
 have HBK := Lib.hid (heap_alloc_new w (.cells #[.int .u64 (v1 : Int), .int .i64 from1, .int .i64 num1, .bool true] 61))
 clear hy0 hb0 hyn0 hR hv1
 obtain ⟨hs1, hs8⟩ := hsz
 have hr1 := pickV_range from1 (pn0 : Int) (by omega)
 obtain ⟨b, hb⟩ : ∃ b : Nat, pickV from1 (pn0 : Int) = (b : Int) := ⟨(pickV from1 (pn0 : Int)).toNat, by omega⟩
 have hp1 := pick_any from1 (pn0 : Int) hf1 (by omega) (by omega)
 rw [hb] at hp1 hr1
 have HPK := Lib.hid hp1
 have hr2 := pickV_range num1 ((pn0 : Int) - (b : Int)) (by omega)
 have hp2 := pick_any num1 ((pn0 : Int) - (b : Int)) hm1 (by omega) (by omega)
 generalize pickV num1 ((pn0 : Int) - (b : Int)) = j at hr2 hp2
 have HPK2 := Lib.hid hp2
 obtain ⟨k, hk⟩ : ∃ k : Nat, 1 + j = (k : Int) := ⟨(1 + j).toNat, by omega⟩
 have hk1 : 1 ≤ k := by omega
 have hbk : b + k ≤ pn0 := by omega
 obtain ⟨j0, j1⟩ := hr2
 clear hb hp1 hp2 hr1 hf1 hm1
 have hln : pn0 = pay0.length := by have := HY.out.len; rwa [List.length_map] at this
 obtain ⟨st, o0, o1, hrun, hout, hlow, hbits, hkeep, hlt0, hlt1⟩ := bytes_facts true (b := b) (k := k) (v := v1) (pay := pay0) (by omega) (by omega) HBY.out
 have HRUN := Lib.hid hrun
 have HOUT := Lib.hid hout
 have HLOW := Lib.hid hlow.symm
 have HBITS := Lib.hid hbits
 have HKEEP := Lib.hid hkeep
 have HL0 := Lib.hid hlt0
 have HL1 := Lib.hid hlt1
 have HMR := Lib.hid (B.bytes_mayRun true (size := pn0) hk1 hbk hs8)
 clear hrun hout hlow hbits hkeep hln hlt0 hlt1
 go_enter Tryz.func35, Tryz.ntmps35
 go_wp2_with fail
 refine (works14_any _ (HR.out.below HBX.out (Nat.le_refl _))).mono ?_
 rintro e w4 ⟨rfl, hb4⟩
 have HB4 := Lib.hid (HBX.out.trans (hb4.mono (by simp)))
 have hG := (hb4.block w.heap.size (by simp)).trans HBK.out
 have x0 : w4.cell? ⟨w.heap.size, 0, none⟩ = some (.int .u64 (v1 : Int)) := (cell_of_row _ _ _ _ _ _ hG).trans rfl
 have x1 : w4.cell? ⟨w.heap.size, 1, none⟩ = some (.int .i64 from1) := (cell_of_row _ _ _ _ _ _ hG).trans rfl
 have x2 : w4.cell? ⟨w.heap.size, 2, none⟩ = some (.int .i64 num1) := (cell_of_row _ _ _ _ _ _ hG).trans rfl
 have x3 : w4.cell? ⟨w.heap.size, 3, none⟩ = some (.bool true) := (cell_of_row _ _ _ _ _ _ hG).trans rfl
 have hlt4 : w.heap.size < w4.heap.size := lt_of_block hG
 have hs4 := HB4.out.size
 have HG4 := Lib.hid hG
 clear hb4 hG
 go_wp2_with fail
 refine (HPK.out _).mono ?_
 rintro e w5 ⟨rfl, rfl⟩
 go_wp2_with fail
 refine (HPK2.out _).mono ?_
 rintro e w5 ⟨rfl, rfl⟩
 have hlt5 : w.heap.size < w5.heap.size + 1 := by omega
 have hlt6 : w.heap.size < w5.heap.size + 1 + 1 := by omega
 have hne4 : ¬ (w.heap.size = w5.heap.size) := by omega
 have hne5 : ¬ (w.heap.size = w5.heap.size + 1) := by omega
 have hne6 : ¬ (w.heap.size = w5.heap.size + 1 + 1) := by omega
 go_wp2_with fail
 obtain ⟨w6, hw6⟩ : ∃ w6, (((w5.alloc (.cells #[.int .i64 12, .int .i64 0, .int .i64 (b : Int), .int .i64 (k : Int), .int .u64 0] 24)).alloc (.cells #[.int .i64 10, .int .i64 1, .int .i64 (b : Int), .int .i64 (k : Int), .int .u64 0] 24)).alloc (.cells #[.int .i64 9, .int .i64 2, .int .i64 (b : Int), .int .i64 (k : Int), .int .u64 0] 24)) = w6 := ⟨_, rfl⟩
 have hb6 : Below w5.heap.size w5 w6 := by rw [← hw6]; exact (((Below.refl _ _).alloc (Nat.le_refl _) _).alloc (by simp) _).alloc (by simp; omega) _
 have hsz6 : w6.heap.size = w5.heap.size + 1 + 1 + 1 := by rw [← hw6]; simp
 rw [hw6]
 clear hw6
 have hp := progAt_new (B.bytesProg true b k) #[.int .i64 15, .int .i64 0, .int .i64 0, .int .i64 0, .int .u64 0, .int .i64 12, .int .i64 0, .int .i64 (b : Int), .int .i64 (k : Int), .int .u64 0, .int .i64 10, .int .i64 1, .int .i64 (b : Int), .int .i64 (k : Int), .int .u64 0, .int .i64 9, .int .i64 2, .int .i64 (b : Int), .int .i64 (k : Int), .int .u64 0, .int .i64 16, .int .i64 1, .int .i64 0, .int .i64 0, .int .u64 0, .int .i64 16, .int .i64 2, .int .i64 1, .int .i64 0, .int .u64 0] 6 24 w6 rfl rfl
 rw [hsz6] at hp
 have hu := listAt_new (([v1, 0] : List Nat).map u64V) #[.int .u64 (v1 : Int), .int .u64 0] 2 (w5.heap.size + 1 + 1 + 1 + 1) 22 (w6.alloc (.cells #[.int .i64 15, .int .i64 0, .int .i64 0, .int .i64 0, .int .u64 0, .int .i64 12, .int .i64 0, .int .i64 (b : Int), .int .i64 (k : Int), .int .u64 0, .int .i64 10, .int .i64 1, .int .i64 (b : Int), .int .i64 (k : Int), .int .u64 0, .int .i64 9, .int .i64 2, .int .i64 (b : Int), .int .i64 (k : Int), .int .u64 0, .int .i64 16, .int .i64 1, .int .i64 0, .int .i64 0, .int .u64 0, .int .i64 16, .int .i64 2, .int .i64 1, .int .i64 0, .int .u64 0] 24)) rfl rfl (by simp [hsz6])
 have hb7 : Below (w6.heap.size + 1) (w6.alloc (.cells #[.int .i64 15, .int .i64 0, .int .i64 0, .int .i64 0, .int .u64 0, .int .i64 12, .int .i64 0, .int .i64 (b : Int), .int .i64 (k : Int), .int .u64 0, .int .i64 10, .int .i64 1, .int .i64 (b : Int), .int .i64 (k : Int), .int .u64 0, .int .i64 9, .int .i64 2, .int .i64 (b : Int), .int .i64 (k : Int), .int .u64 0, .int .i64 16, .int .i64 1, .int .i64 0, .int .i64 0, .int .u64 0, .int .i64 16, .int .i64 2, .int .i64 1, .int .i64 0, .int .u64 0] 24)) ((w6.alloc (.cells #[.int .i64 15, .int .i64 0, .int .i64 0, .int .i64 0, .int .u64 0, .int .i64 12, .int .i64 0, .int .i64 (b : Int), .int .i64 (k : Int), .int .u64 0, .int .i64 10, .int .i64 1, .int .i64 (b : Int), .int .i64 (k : Int), .int .u64 0, .int .i64 9, .int .i64 2, .int .i64 (b : Int), .int .i64 (k : Int), .int .u64 0, .int .i64 16, .int .i64 1, .int .i64 0, .int .i64 0, .int .u64 0, .int .i64 16, .int .i64 2, .int .i64 1, .int .i64 0, .int .u64 0] 24)).alloc (.cells #[.int .u64 (v1 : Int), .int .u64 0] 22)) := (Below.refl _ _).alloc (by simp) _
 have hb57 : Below w5.heap.size w5 ((w6.alloc (.cells #[.int .i64 15, .int .i64 0, .int .i64 0, .int .i64 0, .int .u64 0, .int .i64 12, .int .i64 0, .int .i64 (b : Int), .int .i64 (k : Int), .int .u64 0, .int .i64 10, .int .i64 1, .int .i64 (b : Int), .int .i64 (k : Int), .int .u64 0, .int .i64 9, .int .i64 2, .int .i64 (b : Int), .int .i64 (k : Int), .int .u64 0, .int .i64 16, .int .i64 1, .int .i64 0, .int .i64 0, .int .u64 0, .int .i64 16, .int .i64 2, .int .i64 1, .int .i64 0, .int .u64 0] 24)).alloc (.cells #[.int .u64 (v1 : Int), .int .u64 0] 22)) := (hb6.alloc (by omega) _).trans (hb7.mono (by omega))
 have hp7 := hp.below hb7 (by simp)
 obtain ⟨w7, hw7⟩ : ∃ w7, (w6.alloc (.cells #[.int .i64 15, .int .i64 0, .int .i64 0, .int .i64 0, .int .u64 0, .int .i64 12, .int .i64 0, .int .i64 (b : Int), .int .i64 (k : Int), .int .u64 0, .int .i64 10, .int .i64 1, .int .i64 (b : Int), .int .i64 (k : Int), .int .u64 0, .int .i64 9, .int .i64 2, .int .i64 (b : Int), .int .i64 (k : Int), .int .u64 0, .int .i64 16, .int .i64 1, .int .i64 0, .int .i64 0, .int .u64 0, .int .i64 16, .int .i64 2, .int .i64 1, .int .i64 0, .int .u64 0] 24)).alloc (.cells #[.int .u64 (v1 : Int), .int .u64 0] 22) = w7 := ⟨_, rfl⟩
 rw [hw7] at hu hb57 hp7
 rw [hw7]
 have HU := Lib.hid hu
 have HP := Lib.hid hp7
 have HB57 := Lib.hid hb57
 have HB7 := Lib.hid (HB4.out.trans (hb57.mono hs4))
 have hs57 := hb57.size
 clear hp hu hb7 hb57 hp7 hw7 hb6 hsz6 x0 x1 x2 x3 hlt5 hlt6 hne4 hne5 hne6
 refine (run_go_any _ pa0 _ 6 _ pn0 pc0 2 _ (B.bytesProg true b k) pay0 [v1, 0] _ HP.out (fun y hy => right_wf (HMR.out.ok.mem y hy)) (HR.out.below HB7.out (Nat.le_refl _)) (by omega) HMR.out (HY.out.below HB7.out (Nat.le_refl _)) HU.out HBY.out (fun x hx => by simp at hx; rcases hx with rfl | rfl; exact HV.out; omega) HRUN.out rfl).mono ?_
 rintro e w8 ⟨pa, pc, oa, oc, ha, hc, rfl, hok, l1, l2, l3, hb8⟩
 simp only at l1 l2
 rw [HOUT.out] at l2
 obtain ⟨ob, oo, rfl, hol, hoc⟩ := l2.at_ 0 (u64V o0) rfl
 obtain ⟨ob', oo', hoe, _, hoc'⟩ := l2.at_ 1 (u64V o1) rfl
 simp only [Option.some.injEq, Addr.mk.injEq, and_true] at hoe
 obtain ⟨rfl, rfl⟩ := hoe
 have HB58 := Lib.hid (HB57.out.trans (hb8.mono hs57))
 have hb89 : Below w8.heap.size w8 (w8.alloc (.cells #[.bool false, .int .i64 0, .slice pa pn0 pc, .slice (some ⟨ob, oo, none⟩) 2 oc, .slice ha 2 hc, .int .i64 6] 52)) := (Below.refl _ _).alloc (Nat.le_refl _) _
 have hnew := heap_alloc_new w8 (.cells #[.bool false, .int .i64 0, .slice pa pn0 pc, .slice (some ⟨ob, oo, none⟩) 2 oc, .slice ha 2 hc, .int .i64 6] 52)
 have hs58 := HB58.out.size
 go_wp2_with fail
 obtain ⟨w9, hw9⟩ : ∃ w9, w8.alloc (.cells #[.bool false, .int .i64 0, .slice pa pn0 pc, .slice (some ⟨ob, oo, none⟩) 2 oc, .slice ha 2 hc, .int .i64 6] 52) = w9 := ⟨_, rfl⟩
 rw [hw9] at hb89 hnew
 rw [hw9]
 have HB59 := Lib.hid (HB58.out.trans (hb89.mono hs58))
 have HB9 := Lib.hid (HB4.out.trans (HB59.out.mono hs4))
 have L1 := Lib.hid (l1.below hb89 (Nat.le_refl _))
 have HC := Lib.hid (show w9.cell? ⟨ob, oo, none⟩ = some (.int .u64 (o0 : Int)) from (hb89.cell (p := ⟨ob, oo, none⟩) hol).trans hoc)
 have HC' := Lib.hid (show w9.cell? ⟨ob, oo + 1, none⟩ = some (.int .u64 (o1 : Int)) from (hb89.cell (p := ⟨ob, oo + 1, none⟩) hol).trans hoc')
 have HN9 := Lib.hid hnew
 have hob : ob < w9.heap.size := Nat.lt_of_lt_of_le hol hb89.size
 have hX9 : w8.heap.size < w9.heap.size := lt_of_block hnew
 have hb8 : w.heap.size < w9.heap.size := by have := HB59.out.size; omega
 have y0 : w9.cell? ⟨w.heap.size, 0, none⟩ = some (.int .u64 (v1 : Int)) := (HB59.out.cell (p := ⟨w.heap.size, 0, none⟩) hlt4).trans ((cell_of_row _ _ _ _ _ _ HG4.out).trans rfl)
 clear hok l1 l2 l3 hb89 hnew hw9 hoc hoc' hol hs57 hs58
 generalize w8.heap.size = X at *
 have r2 : w9.cell? ⟨X, 2, none⟩ = some (.slice pa pn0 pc) := (cell_of_row _ _ _ _ _ _ HN9.out).trans rfl
 have r3 : w9.cell? ⟨X, 3, none⟩ = some (.slice (some ⟨ob, oo, none⟩) 2 oc) := (cell_of_row _ _ _ _ _ _ HN9.out).trans rfl
 have HRF : Hid (Below w9.heap.size w9 w9.drew) := (Below.refl w9.heap.size w9).drew
 have c0 := HC.out
 have c1 := HC'.out
 have h8k : 8 * k ≤ 64 := by omega
 have ww : IntKind.i64.wrap (8 * (k : Int)) = 8 * (k : Int) := IntWalk.i64_in _ (by omega)
 refine wp_region_still_lit (by kernel_rfl) (by kernel_rfl) ?_
 refine still_gen (fun QQ hQQ => ?_)
 repeat (first | still_step | still_call (low8 v1 k _ h8k HV.out HLOW.out))
 refine wpStill_nil (hQQ _ ?_)
 clear hQQ QQ
 clear y0 r2 r3 c0 c1 ww
 go_wp2_with fail
 go_loopw [13] (fun i wr => ∃ m : Nat, m ≤ pn0 ∧ i = .int .i64 m ∧ Below w9.heap.size w9 wr) (fun i _ => pn0 - (intOf i).toNat)
 case atStart => exact ⟨0, by omega, rfl, HRF.out⟩
 case round =>
  obtain ⟨m, hm, rfl, hbr⟩ := hrel
  have HBR := Lib.hid hbr
  clear hbr
  by_cases hlt : m < pn0
  ·have m0 : (0 : Int) ≤ (m : Int) := by omega
   have m1 : (m : Int) < (pn0 : Int) := by omega
   have r2 : wr.cell? ⟨X, 2, none⟩ = some (.slice pa pn0 pc) := (HBR.out.cell (p := ⟨X, 2, none⟩) hX9).trans ((cell_of_row _ _ _ _ _ _ HN9.out).trans rfl)
   have ww : IntKind.i64.wrap ((b : Int) + (k : Int)) = (b : Int) + (k : Int) := IntWalk.i64_in _ (by omega)
   have WW := Lib.hid ww
   clear ww
   by_cases hin : b ≤ m ∧ m < b + k
   ·have d1 : decide (m < b) = false := by simp; omega
    have d2 : decide (b + k ≤ m) = false := by simp; omega
    have d2' : decide ((b : Int) + (k : Int) ≤ (m : Int)) = false := by simp; omega
    have HIN := Lib.hid hin
    clear hin
    go_wp2_with fail
    have ww := WW.out
    go_quiet (fail)
    clear ww
    go_wp2_with fail
    go_roundw
    case rel => exact ⟨m + 1, by omega, by go_num, belowN HBR.out _⟩
    case measure => simp [intOf]; omega
   ·have hln : pn0 = pay0.length := by have := HY.out.len; rwa [List.length_map] at this
    have hx : pay0[m]? = some (pay0[m]'(by omega)) := List.getElem?_eq_getElem _
    have hx2 := (HKEEP.out m (by omega)).trans hx
    generalize pay0[m]'(by omega) = q at hx hx2
    obtain ⟨b1, f1, rfl, hl1, hc1⟩ := HY.out.at_ m (u8V q) (by rw [List.getElem?_map, hx]; rfl)
    obtain ⟨b2, f2, rfl, hl2, hc2⟩ := L1.out.at_ m (u8V q) (by rw [List.getElem?_map, hx2]; rfl)
    replace hc1 := (HBR.out.cell (p := ⟨b1, f1 + m, none⟩) (Nat.lt_of_lt_of_le hl1 HB9.out.size)).trans ((HB9.out.cell (p := ⟨b1, f1 + m, none⟩) hl1).trans hc1)
    replace hc2 := (HBR.out.cell (p := ⟨b2, f2 + m, none⟩) hl2).trans hc2
    unfold u8V at hc1 hc2
    clear hx hx2 hln hl1 hl2
    by_cases hlo : m < b
    ·have d1 : decide (m < b) = true := by simp; omega
     have HIN := Lib.hid hin
     have HLO := Lib.hid hlo
     clear hin hlo
     go_wp2_with fail
     have ww := WW.out
     go_quiet (fail)
     clear ww
     go_wp2_with fail
     go_roundw
     case rel => exact ⟨m + 1, by omega, by go_num, belowN HBR.out _⟩
     case measure => simp [intOf]; omega
    ·have d1 : decide (m < b) = false := by simp; omega
     have d2 : decide (b + k ≤ m) = true := by simp; omega
     have d2' : decide ((b : Int) + (k : Int) ≤ (m : Int)) = true := by simp; omega
     have HIN := Lib.hid hin
     have HLO := Lib.hid hlo
     clear hin hlo
     go_wp2_with fail
     have ww := WW.out
     go_quiet (fail)
     clear ww
     go_wp2_with fail
     go_roundw
     case rel => exact ⟨m + 1, by omega, by go_num, belowN HBR.out _⟩
     case measure => simp [intOf]; omega
  ·obtain rfl : m = pn0 := by omega
   obtain ⟨wo, hwo⟩ : ∃ wo : World, wo = wr := ⟨_, rfl⟩
   subst hwo
   go_wp2_with fail
   go_loopw [14] (fun i wr => ∃ t : Nat, t ≤ k ∧ i = .int .i64 t ∧ Below w9.heap.size w9 wr) (fun i _ => k - (intOf i).toNat)
   case atStart => exact ⟨0, by omega, rfl, HBR.out⟩
   case round =>
    obtain ⟨t, ht, rfl, hbq⟩ := hrel
    have HBQ := Lib.hid hbq
    clear hbq
    by_cases htk : t < k
    ·have r3 : wr.cell? ⟨X, 3, none⟩ = some (.slice (some ⟨ob, oo, none⟩) 2 oc) := (HBQ.out.cell (p := ⟨X, 3, none⟩) hX9).trans ((cell_of_row _ _ _ _ _ _ HN9.out).trans rfl)
     have c0 : wr.cell? ⟨ob, oo, none⟩ = some (.int .u64 (o0 : Int)) := (HBQ.out.cell (p := ⟨ob, oo, none⟩) hob).trans HC.out
     have c1 : wr.cell? ⟨ob, oo + 1, none⟩ = some (.int .u64 (o1 : Int)) := (HBQ.out.cell (p := ⟨ob, oo + 1, none⟩) hob).trans HC'.out
     obtain ⟨u, hu⟩ : ∃ u : Nat, (k : Int) - 1 - (t : Int) = (u : Int) := ⟨k - 1 - t, by omega⟩
     have hbt := HBITS.out t htk
     have hu' : k - 1 - t = u := by omega
     rw [hu'] at hbt
     have e1 := and_byte o0 (8 * t) HL0.out
     have e2 := and_byte o1 (8 * u) HL1.out
     rw [← hbt] at e2
     have h64 : 8 * (t : Int) < 64 := by omega
     have h64' : 8 * (u : Int) < 64 := by omega
     have hk0 : 0 ≤ (k : Int) - 1 := by omega
     have w1 : IntKind.i64.wrap (8 * (t : Int)) = 8 * (t : Int) := IntWalk.i64_in _ (by omega)
     have w2 : IntKind.i64.wrap (8 * (u : Int)) = 8 * (u : Int) := IntWalk.i64_in _ (by omega)
     have w3 : IntKind.i64.wrap ((k : Int) - 1) = (k : Int) - 1 := IntWalk.i64_in _ (by omega)
     have w6' : (8 * (t : Int)).toNat = 8 * t := by omega
     have w7' : (8 * (u : Int)).toNat = 8 * u := by omega
     have w4' : IntKind.i64.wrap ((u : Int)) = (u : Int) := IntWalk.i64_in _ (by omega)
     have w5' : IntKind.i64.wrap ((k : Int) - 1 - (t : Int)) = (k : Int) - 1 - (t : Int) := IntWalk.i64_in _ (by omega)
     clear hu' hbt
     generalize o0 / 2 ^ (8 * t) % 256 = q at e1 e2
     go_wp2_with fail
     go_quiet (fail)
     go_wp2_with fail
     go_roundw
     case rel => exact ⟨t + 1, by omega, by go_num, belowN HBQ.out _⟩
     case measure => simp [intOf]; omega
    ·obtain rfl : t = k := by omega
     go_wp2_with fail
     go_ret
     exact ⟨rfl, HB9.out.trans (HBQ.out.mono HB9.out.size)⟩
set_option maxRecDepth 100000 in
set_option maxHeartbeats 3200000 in
theorem law (pa0 : Option Addr) (pn0 pc0 : Nat) (pay0 : List Nat) (v1 : Nat) (from1 num1 : Int) (big1 : Bool) (w : World) (hy0 : ListAt w pa0 pn0 (pay0.map u8V)) (hb0 : B.Bytes pay0) (hyn0 : pa0 = none → pc0 = 0) (hyl0 : pn0 ≤ 9223372036854775807) (hv1 : v1 < 18446744073709551616) (hf1 : B.In64 from1) (hm1 : B.In64 num1) (hR : Tabs w) :
    Calls Tryz.prog 35 #[.slice pa0 pn0 pc0, .agg #[.int .u64 (v1 : Int), .int .i64 from1, .int .i64 num1, .bool big1]] w (BoolOut true w) := by
 by_cases hsz : 1 ≤ pn0 ∧ pn0 ≤ 8
 ·cases big1 with
  | false => exact law_f pa0 pn0 pc0 pay0 v1 from1 num1 w hy0 hb0 hyn0 hyl0 hv1 hf1 hm1 hR hsz
  | true => exact law_t pa0 pn0 pc0 pay0 v1 from1 num1 w hy0 hb0 hyn0 hyl0 hv1 hf1 hm1 hR hsz
 ·have _U0 := Lib.hid hyn0
  have _U1 := Lib.hid hyl0
  have _U2 := Lib.hid hy0
  have _U3 := Lib.hid hb0
  have HR := Lib.hid hR
  have _U4 := Lib.hid hv1
  have HBX := Lib.hid ((Below.refl w.heap.size w).alloc (Nat.le_refl _) (.cells #[.int .u64 (v1 : Int), .int .i64 from1, .int .i64 num1, .bool big1] 61))
  clear hy0 hb0 hyn0 hR hv1
  have hsz' : pn0 < 1 ∨ 8 < pn0 := by omega
  have q : (decide ((pn0 : Int) < 1) || decide (8 < (pn0 : Int))) = true := by simp; omega
  clear hf1 hm1 hsz q
  rcases hsz' with hsz' | hsz'
  all_goals
   go_enter Tryz.func35, Tryz.ntmps35
   go_wp2_with fail
   refine (works14_any _ (HR.out.below HBX.out (Nat.le_refl _))).mono ?_
   rintro e w4 ⟨rfl, hb4⟩
   have HB4 := Lib.hid (HBX.out.trans (hb4.mono (by simp)))
   clear hb4
   go_wp2_with fail
   refine (works14_any _ (HR.out.below HB4.out (Nat.le_refl _))).mono ?_
   rintro e w6 ⟨rfl, hb6⟩
   have HB6 := Lib.hid (HB4.out.trans (hb6.mono HB4.out.size))
   clear hb6
   go_wp2_with fail
   go_ret
   exact ⟨rfl, HB6.out⟩

end LawVmBytes
end Go.Proofs.YtmpeipdeablkdaaGreatDoor

namespace Go.Proofs.YtmpeipdeablkdaaGreatDoor
open Go.RowKit Go.Proofs.YtmpeipdeablkdaaGreatDoor.Code

namespace LawVmBehind

attribute [local go_sem ↓] Go.wp_at_zero Go.wp_at_succ

def NoHalt (ps : List B.Ins) : Prop := ∀ x ∈ ps, x.op ≠ 0

theorem nohalt_snoc {ps : List B.Ins} {x : B.Ins} (h : NoHalt ps) (hx : x.op ≠ 0) : NoHalt (ps ++ [x]) := by
 intro y hy
 rcases List.mem_append.1 hy with h' | h'
 ·exact h y h'
 ·simp at h'; subst h'; exact hx

theorem same_fail {r rc : B.Out} {k : Int} (h : r.failed = some k) (h' : rc.failed = some k) : Same r rc := by
 refine ⟨?_, ?_, ?_, ?_, ?_⟩
 ·unfold fl; rw [h, h']
 ·unfold slotOf; rw [h, h']
 ·unfold payL; rw [h, h']; rfl
 ·unfold outL; rw [h, h']; rfl
 ·unfold hasL; rw [h, h']; rfl
theorem exec_ok {x : B.Ins} {inp : List Nat} {st s' : B.St} {size slots d : Nat} {left : Int} (hr : x.right = true) (ht : x.touch size slots left = 0) (hi : B.Words inp) (h : B.StOk size slots st) (he : x.exec inp st = .go d s') : B.StOk size slots s' := by
 have hb := B.right_bounds hr
 unfold B.Ins.exec at he
 split at he
 ·cases he; exact h.set _ _ (B.val_lt hr h hi)
 split at he
 ·rename_i hl
  have ho : 9 ≤ x.op ∧ x.op ≤ 13 := by unfold B.Ins.lays at hl; simp at hl; omega
  have hbn : x.b.toNat + x.n.toNat ≤ size := by
   unfold B.Ins.touch at ht
   rw [if_pos ho] at ht
   split at ht
   ·omega
   ·omega
  have h2 := B.lay_ok h hbn
  cases he
  exact h.lay _ h2.1 h2.2
 split at he
 ·cases he
 split at he
 ·cases he; exact h.hand _ _ (h.reg _)
 split at he
 ·split at he
  ·cases he; exact h
  ·cases he
 split at he
 ·cases he; exact h
 split at he
 ·cases he; exact h
 ·cases he; exact h

theorem run_ok {p : List B.Ins} {size slots : Nat} (hp : B.MayRun p size slots) {inp : List Nat} (hi : B.Words inp) : ∀ pc, ∀ st, B.StOk size slots st → B.StOk size slots (B.run p inp pc st).st := by
 refine B.pc_ind (p := p) (P := fun pc => ∀ st, B.StOk size slots st → B.StOk size slots (B.run p inp pc st).st) ?_ ?_
 ·intro pc h st hst
  rw [B.run_end h]
  exact hst
 ·intro pc x hx ih st hst
  cases he : x.exec inp st with
  | halt => rw [B.run_halt hx he]; exact hst
  | fail k => rw [B.run_fail hx he]; exact hst
  | go d s' =>
   rw [B.run_go hx he]
   exact ih (pc + 1 + d) (by omega) s' (exec_ok (hp.ok.right pc x hx) (hp.ok.touch pc x hx) hi hst he)
theorem lists_of {r : B.Out} (h : fl r = false) : outL r = r.st.out ∧ hasL r = r.st.has := by
 unfold fl at h
 unfold outL hasL
 rw [h]
 exact ⟨rfl, rfl⟩

theorem get_some {α : Type} {l : List α} {t : Nat} {d : α} (h : t < l.length) : l[t]? = some (l.getD t d) := by
 rw [List.getD_eq_getElem?_getD, List.getElem?_eq_getElem h]; rfl
set_option maxRecDepth 100000 in
set_option maxHeartbeats 6400000 in
theorem law (a0 : Option Addr) (len0 cap0 : Nat) (ps0 : List B.Ins) (pa0 : Option Addr) (pn0 pc0 : Nat) (pay0 : List Nat) (ia0 : Option Addr) (im0 ic0 : Nat) (inp0 : List Nat) (a1 : Option Addr) (len1 cap1 : Nat) (ps1 : List B.Ins) (w : World) (hp0 : ProgAt w a0 len0 ps0) (hwf0 : ∀ y ∈ ps0, y.Wf) (hn0 : a0 = none → cap0 = 0) (hl0 : len0 ≤ 9223372036854775807) (hy0 : ListAt w pa0 pn0 (pay0.map u8V)) (hb0 : B.Bytes pay0) (hyl0 : pn0 ≤ 9223372036854775807) (hu0 : ListAt w ia0 im0 (inp0.map u64V)) (hw0 : B.Words inp0) (hul0 : im0 ≤ 9223372036854775807) (hp1 : ProgAt w a1 len1 ps1) (hwf1 : ∀ y ∈ ps1, y.Wf) (hl1 : len1 * 40 ≤ 140737488351232) (hn1 : a1 = none → cap1 = 0) (hR : Tabs w) :
    Calls Tryz.prog 36 #[.agg #[.slice a0 len0 cap0, .slice pa0 pn0 pc0, .slice ia0 im0 ic0], .slice a1 len1 cap1] w (BoolOut true w) := by
 have _U0 := Lib.hid hn0
 have _U1 := Lib.hid hn1
 have _U2 := Lib.hid hyl0
 have _U3 := Lib.hid hul0
 have HP := Lib.hid hp0
 have HWF := Lib.hid hwf0
 have HY := Lib.hid hy0
 have HBY := Lib.hid hb0
 have HU := Lib.hid hu0
 have HW := Lib.hid hw0
 have HP1 := Lib.hid hp1
 have HWF1 := Lib.hid hwf1
 have HR := Lib.hid hR
 have hlw1 : len1 ≤ 3518437208780 := by omega
 have HBX := Lib.hid ((Below.refl w.heap.size w).alloc (Nat.le_refl _) (.cells #[.slice a0 len0 cap0, .slice pa0 pn0 pc0, .slice ia0 im0 ic0] 64))
 clear hp0 hwf0 hn0 hy0 hb0 hyl0 hu0 hw0 hul0 hp1 hwf1 hl1 hn1 hR
 by_cases hm : B.MayRun ps0 pn0 im0
 ·have HM := Lib.hid hm
  have hlen : len0 ≤ 16384 := by rw [HP.out.len]; exact hm.len
  clear hm
  obtain ⟨r, hq⟩ : ∃ r, B.run ps0 inp0 0 (B.start pay0 im0) = r := ⟨_, rfl⟩
  have HQ := Lib.hid hq
  clear hq
  go_enter Tryz.func36, Tryz.ntmps36
  go_wp2_with fail
  refine (run_same (r := r) (Same.refl r) rfl a0 pa0 ia0 len0 cap0 pn0 pc0 im0 ic0 ps0 pay0 inp0 _ (HP.out.below HBX.out (Nat.le_refl _)) HWF.out (HR.out.below HBX.out (Nat.le_refl _)) hl0 HM.out (HY.out.below HBX.out (Nat.le_refl _)) (HU.out.below HBX.out (Nat.le_refl _)) HBY.out HW.out HQ.out).mono ?_
  rintro e w2 ⟨xa, xc, ya, yc, za, zc, rfl, o1, o2, o3, ⟨s1, s2, s3⟩, hb2⟩
  have HB2 := Lib.hid (HBX.out.trans (hb2.mono (by simp)))
  have hs2 := HB2.out.size
  have O1 := Lib.hid o1
  have O2 := Lib.hid o2
  have O3 := Lib.hid o3
  clear o1 o2 o3 hb2
  go_wp2_with fail
  have hb3 := (Below.refl w2.heap.size w2).alloc (Nat.le_refl _) (.cells #[.bool (fl r), .int .i64 (slotOf r), .slice xa (payL r).length xc, .slice ya (outL r).length yc, .slice za (hasL r).length zc, .int .i64 (r.steps : Int)] 52)
  refine (works14_any _ ((HR.out.below HB2.out (Nat.le_refl _)).below hb3 (Nat.le_refl _))).mono ?_
  rintro e w4 ⟨rfl, hb4⟩
  have HA4 := Lib.hid ((hb4.block w2.heap.size (by simp)).trans (heap_alloc_new w2 _))
  have HB24 := Lib.hid (hb3.trans (hb4.mono (by simp)))
  have HB4 := Lib.hid (HB2.out.trans (HB24.out.mono hs2))
  have hs4 := HB4.out.size
  have hs24 : w2.heap.size + 1 ≤ w4.heap.size := by have := hb4.size; simpa using this
  clear hb3 hb4
  by_cases hsum : len0 + len1 ≤ 16384
  ·by_cases hm : B.MayRun ps1 pn0 im0
   ·have HM1 := Lib.hid hm
    clear hm
    go_wp2_with fail
    refine (program_yes a1 len1 cap1 ps1 pn0 im0 _ (HP1.out.below HB4.out (Nat.le_refl _)) HWF1.out (HR.out.below HB4.out (Nat.le_refl _)) (by omega) HM1.out).mono ?_
    rintro e w5 ⟨rfl, hb5⟩
    have HA5 := Lib.hid ((hb5.block w2.heap.size (by omega)).trans HA4.out)
    have HB5 := Lib.hid (HB4.out.trans (hb5.mono hs4))
    have HB25 := Lib.hid (HB24.out.trans (hb5.mono (by omega)))
    have hs5 := HB5.out.size
    have hs25 : w2.heap.size + 1 ≤ w5.heap.size := by have := hb5.size; omega
    clear hb5
    go_wp2_with fail
    go_loopw [10, 11] (fun v i wr => ∃ (k : Nat) (ao : Option Addr) (cp : Nat), k ≤ len0 ∧ i = .int .i64 k ∧ v = .slice ao k cp ∧ OwnP wr w5.heap.size ao k cp (ps0.take k) ∧ Below w5.heap.size w5 wr ∧ NoHalt (ps0.take k))
     (fun _ i _ => len0 - (intOf i).toNat)
    case atStart => exact ⟨0, none, 0, Nat.zero_le _, rfl, rfl, OwnP.nil _ _, Below.refl _ _, fun x hx => by simp at hx⟩
    case round =>
     obtain ⟨k, ao, cp, hk, rfl, rfl, hown, hb, hnh⟩ := hrel
     have HO := Lib.hid hown
     have HBr := Lib.hid hb
     have HNH := Lib.hid hnh
     have hsz := hb.size
     clear hown hb hnh
     by_cases hlt : k < len0
     ·have hx : ps0[k]? = some (ps0[k]'(by have := HP.out.len; omega)) := List.getElem?_eq_getElem _
      generalize ps0[k]'(by have := HP.out.len; omega) = x at hx
      obtain ⟨b, off, rfl, hbl, hat⟩ := HP.out.at_ k x hx
      obtain ⟨h0, h1, h2, h3, h4⟩ := hat.below (HB5.out.trans (HBr.out.mono hs5)) hbl
      have HX := Lib.hid hx
      clear hx hat hbl
      by_cases hop : x.op = 0
      ·have q1 : (x.op == 0) = true := by simp; exact hop
       clear hop
       go_wp2_with fail
       go_ret
       exact ⟨rfl, HB5.out.trans (HBr.out.mono hs5)⟩
      ·have q1 : (x.op == 0) = false := by simp; exact hop
       have HOP := Lib.hid hop
       clear hop
       go_wp2_with (at_builtin; refine app_ins rfl _ _ rfl w5.heap.size rfl HO.out rfl (by omega) (by omega) ?_; intro ao' cp' w6 hown6 hb6 hs6)
       go_roundw
       case rel => exact ⟨k + 1, ao', cp', by omega, by go_num, rfl, by rw [take_snoc' _ _ _ HX.out]; exact hown6, HBr.out.trans hb6, by rw [take_snoc' _ _ _ HX.out]; exact nohalt_snoc HNH.out HOP.out⟩
       case measure => simp [intOf]; omega
     ·obtain rfl : k = len0 := by omega
      have htk : ps0.take k = ps0 := List.take_of_length_le (by have := HP.out.len; omega)
      have HO1 : Hid (OwnP wr w5.heap.size ao k cp ps0) := by
       have := HO.out
       rw [htk] at this
       exact this
      have HNH1 : Hid (NoHalt ps0) := by
       have := HNH.out
       rw [htk] at this
       exact this
      obtain ⟨wo, hwo⟩ : ∃ wo : World, wo = wr := ⟨_, rfl⟩
      subst hwo
      clear HO HNH htk
      go_wp2_with fail
      go_loopw [10, 12] (fun v i wr => ∃ (j : Nat) (ao : Option Addr) (cp : Nat), j ≤ len1 ∧ i = .int .i64 j ∧ v = .slice ao (k + j) cp ∧ OwnP wr w5.heap.size ao (k + j) cp (ps0 ++ ps1.take j) ∧ Below w5.heap.size w5 wr)
       (fun _ i _ => len1 - (intOf i).toNat)
      case atStart => exact ⟨0, ao, cp, Nat.zero_le _, rfl, rfl, by rw [List.take_zero, List.append_nil]; exact HO1.out, HBr.out⟩
      case round =>
       obtain ⟨j, ao2, cp2, hj, rfl, rfl, hown, hb⟩ := hrel
       have HO := Lib.hid hown
       have HBq := Lib.hid hb
       have hszq := hb.size
       clear hown hb
       by_cases hltj : j < len1
       ·have hx : ps1[j]? = some (ps1[j]'(by have := HP1.out.len; omega)) := List.getElem?_eq_getElem _
        generalize ps1[j]'(by have := HP1.out.len; omega) = x at hx
        obtain ⟨b, off, rfl, hbl, hat⟩ := HP1.out.at_ j x hx
        obtain ⟨h0, h1, h2, h3, h4⟩ := hat.below (HB5.out.trans (HBq.out.mono hs5)) hbl
        have HX := Lib.hid hx
        clear hx hat hbl
        go_wp2_with (at_builtin; refine app_ins rfl _ _ rfl w5.heap.size rfl HO.out rfl (by omega) (by omega) ?_; intro ao' cp' w6 hown6 hb6 hs6)
        go_roundw
        case rel => exact ⟨j + 1, ao', cp', by omega, by go_num, rfl, by rw [take_snoc' _ _ _ HX.out, ← List.append_assoc]; exact hown6, HBq.out.trans hb6⟩
        case measure => simp [intOf]; omega
       ·obtain rfl : j = len1 := by omega
        have HO2 : Hid (OwnP wr w5.heap.size ao2 (k + j) cp2 (ps0 ++ ps1)) := by
         have := HO.out
         rw [List.take_of_length_le (by have := HP1.out.len; omega)] at this
         exact this
        have HBw := Lib.hid (HB5.out.trans (HBq.out.mono hs5))
        have HA6 := Lib.hid ((HBq.out.block w2.heap.size (by omega)).trans HA5.out)
        have HB26 := Lib.hid (HB25.out.trans (HBq.out.mono (by omega)))
        have hs6 : w5.heap.size ≤ wr.heap.size := hszq
        have HMQ : Hid (B.MayRun (ps0 ++ ps1) pn0 im0) := HM.out.append HM1.out (by rw [List.length_append, ← HP.out.len, ← HP1.out.len]; exact hsum)
        have HWFQ : Hid (∀ y ∈ ps0 ++ ps1, y.Wf) := by
         show ∀ y ∈ ps0 ++ ps1, y.Wf
         intro y hy
         rcases List.mem_append.1 hy with h | h
         ·exact HWF.out y h
         ·exact HWF1.out y h
        have hrs : r.steps ≤ 16384 := by have := B.steps_le ps0 inp0 0 (B.start pay0 im0); rw [HQ.out] at this; have := HP.out.len; omega
        clear HO hszq
        go_wp2_with fail
        cases hfl : r.failed with
        | some kk =>
         have hbf := B.behind_fail (q := ps1) HM.out HNH1.out (inp := inp0) (s := B.start pay0 im0) (k := kk) (by rw [HQ.out]; exact hfl)
         obtain ⟨rc, hrc⟩ : ∃ rc, B.run (ps0 ++ ps1) inp0 0 (B.start pay0 im0) = rc := ⟨_, rfl⟩
         rw [hrc, HQ.out] at hbf
         have HSM : Hid (Same r rc) := same_fail hfl hbf.1
         have HST := Lib.hid hbf.2
         have HRC := Lib.hid hrc
         have HF : Hid (fl r = true) := by show fl r = true; unfold fl; rw [hfl]; rfl
         clear hbf hrc hfl
         refine (run_same HSM.out HST.out ao2 pa0 ia0 (k + j) cp2 pn0 pc0 im0 ic0 _ pay0 inp0 _ HO2.out.progAt HWFQ.out (HR.out.below HBw.out (Nat.le_refl _)) (by omega) HMQ.out (HY.out.below HBw.out (Nat.le_refl _)) (HU.out.below HBw.out (Nat.le_refl _)) HBY.out HW.out HRC.out).mono ?_
         rintro e w7 ⟨xa', xc', ya', yc', za', zc', rfl, o1, o2, o3, _, hb7⟩
         have hG : w7.heap[w2.heap.size]? = _ := (hb7.block w2.heap.size (by omega)).trans HA6.out
         have hX7 : w2.heap.size < w7.heap.size := lt_of_block hG
         have HB7 := Lib.hid (HBw.out.trans (hb7.mono (by omega)))
         rw [HF.out] at hG
         rw [HF.out]
         have q0 : w7.cell? ⟨w2.heap.size, 0, none⟩ = some (.bool true) := by rw [cell_of_row _ _ _ _ _ _ hG]; rfl
         have q1 : w7.cell? ⟨w2.heap.size, 1, none⟩ = some (.int .i64 (slotOf r)) := by rw [cell_of_row _ _ _ _ _ _ hG]; rfl
         have q5 : w7.cell? ⟨w2.heap.size, 5, none⟩ = some (.int .i64 (r.steps : Int)) := by rw [cell_of_row _ _ _ _ _ _ hG]; rfl
         clear hG o1 o2 o3 hb7
         go_wp2_with fail
         go_ret
         exact ⟨rfl, HB7.out.alloc (by omega) _⟩
        | none =>
         have hep : payL r = r.st.pay := by unfold payL; rw [hfl]; rfl
         have heo : outL r = r.st.out := by unfold outL; rw [hfl]; rfl
         have heh : hasL r = r.st.has := by unfold hasL; rw [hfl]; rfl
         have hrok : B.StOk pn0 im0 r.st := by
          have h := run_ok HM.out HW.out 0 (B.start pay0 im0) (by have := HY.out.len; rw [List.length_map] at this; rw [this]; exact B.start_ok im0 HBY.out)
          rw [HQ.out] at h
          exact h
         have hpl : (payL r).length = pn0 := by rw [hep]; exact hrok.payl
         have hpb : B.Bytes (payL r) := by rw [hep]; exact hrok.pay
         obtain ⟨rb, hrb⟩ : ∃ rb, B.run ps1 inp0 0 (B.start (payL r) im0) = rb := ⟨_, rfl⟩
         obtain ⟨rc, hrc⟩ : ∃ rc, B.run (ps0 ++ ps1) inp0 0 (B.start pay0 im0) = rc := ⟨_, rfl⟩
         obtain ⟨ef, est, ep, eo⟩ := B.behind_go (b := rb) (c := rc) HM.out HM1.out HNH1.out HQ.out (by rw [← hep]; exact hrb) hrc hfl
         have efl : fl rc = fl rb := by unfold fl; rw [ef]
         have esl : slotOf rc = slotOf rb := by unfold slotOf; rw [ef]
         have epl : payL rc = payL rb := by unfold payL; rw [ef, ep]
         have hbst : rb.steps ≤ 16384 := by have := B.steps_le ps1 inp0 0 (B.start (payL r) im0); rw [hrb] at this; have := HP1.out.len; omega
         have lb := B.run_lens ps1 inp0 (payL r) im0
         have lc := B.run_lens (ps0 ++ ps1) inp0 pay0 im0
         rw [hrb] at lb
         rw [hrc] at lc
         have HLB := Lib.hid lb
         have HLC := Lib.hid lc
         have HRK := Lib.hid hrok
         have HEO := Lib.hid heo
         have HEH := Lib.hid heh
         have HPL := Lib.hid hpl
         have HPB := Lib.hid hpb
         have HRB := Lib.hid hrb
         have HRC := Lib.hid hrc
         have HEF := Lib.hid ef
         have HST := Lib.hid est
         have HEO2 := Lib.hid eo
         have HFL := Lib.hid efl
         have HSL := Lib.hid esl
         have HPLc := Lib.hid epl
         have HF : Hid (fl r = false) := by show fl r = false; unfold fl; rw [hfl]; rfl
         clear hep heo heh hrok hpl hpb hrb hrc ef est ep eo efl esl epl lb lc hfl
         refine (run_same (Same.refl rc) HST.out ao2 pa0 ia0 (k + j) cp2 pn0 pc0 im0 ic0 _ pay0 inp0 _ HO2.out.progAt HWFQ.out (HR.out.below HBw.out (Nat.le_refl _)) (by omega) HMQ.out (HY.out.below HBw.out (Nat.le_refl _)) (HU.out.below HBw.out (Nat.le_refl _)) HBY.out HW.out HRC.out).mono ?_
         rintro e w7 ⟨xa', xc', ya', yc', za', zc', rfl, o1, o2, o3, ⟨t1, t2, t3⟩, hb7⟩
         rw [HFL.out, HSL.out]
         have hG : w7.heap[w2.heap.size]? = _ := (hb7.block w2.heap.size (by omega)).trans HA6.out
         rw [HF.out] at hG
         have hX7 : w2.heap.size < w7.heap.size := lt_of_block hG
         have HB7 := Lib.hid (HBw.out.trans (hb7.mono (by omega)))
         have HB27 := Lib.hid (HB26.out.trans (hb7.mono (by omega)))
         have q0 : w7.cell? ⟨w2.heap.size, 0, none⟩ = some (.bool false) := by rw [cell_of_row _ _ _ _ _ _ hG]; rfl
         have q2 : w7.cell? ⟨w2.heap.size, 2, none⟩ = some (.slice xa (payL r).length xc) := by rw [cell_of_row _ _ _ _ _ _ hG]; rfl
         have P1 := Lib.hid o1
         have P2 := Lib.hid o2
         have P3 := Lib.hid o3
         have HG7 := Lib.hid hG
         clear hG o1 o2 o3 hb7
         go_wp2_with fail
         obtain ⟨w8, hw8⟩ : ∃ w8, w7.alloc (.cells #[.bool (fl rb), .int .i64 (slotOf rb), .slice xa' (payL rc).length xc', .slice ya' (outL rc).length yc', .slice za' (hasL rc).length zc', .int .i64 ((r.steps : Int) + (rb.steps : Int))] 52) = w8 := ⟨_, rfl⟩
         rw [hw8]
         have HN8 : Hid (w8.heap[w7.heap.size]? = some (.cells #[.bool (fl rb), .int .i64 (slotOf rb), .slice xa' (payL rc).length xc', .slice ya' (outL rc).length yc', .slice za' (hasL rc).length zc', .int .i64 ((r.steps : Int) + (rb.steps : Int))] 52 (0, 0))) := by rw [← hw8]; exact heap_alloc_new w7 _
         have HB78 : Hid (Below w7.heap.size w7 w8) := by rw [← hw8]; exact (Below.refl _ _).alloc (Nat.le_refl _) _
         have HB8 := Lib.hid (HB7.out.trans (HB78.out.mono HB7.out.size))
         have HB28 := Lib.hid (HB27.out.trans (HB78.out.mono HB27.out.size))
         have HG8 := Lib.hid ((HB78.out.block w2.heap.size hX7).trans HG7.out)
         have hs8 := HB8.out.size
         have hX8 : w7.heap.size < w8.heap.size := lt_of_block HN8.out
         clear hw8 q0 q2
         refine (run_same (Same.refl rb) rfl a1 xa ia0 j cap1 (payL r).length xc im0 ic0 ps1 (payL r) inp0 _ (HP1.out.below HB8.out (Nat.le_refl _)) HWF1.out (HR.out.below HB8.out (Nat.le_refl _)) (by omega) (by rw [HPL.out]; exact HM1.out) ((ListAt.ofOwn O1.out).below HB28.out (Nat.le_refl _)) (HU.out.below HB8.out (Nat.le_refl _)) HPB.out HW.out HRB.out).mono ?_
         rintro e w9 ⟨xb, xbc, yb, ybc, zb, zbc, rfl, b1, b2, b3, ⟨v1, v2, v3⟩, hb9⟩
         have hA9 := (hb9.block w2.heap.size (by omega)).trans HG8.out
         have hC9 := (hb9.block w7.heap.size hX8).trans HN8.out
         have HB9 := Lib.hid (HB8.out.trans (hb9.mono hs8))
         have HB29 := Lib.hid (HB28.out.trans (hb9.mono (by omega)))
         have HB79 := Lib.hid (HB78.out.trans (hb9.mono (by omega)))
         have Q1 := Lib.hid b1
         have Q2 := Lib.hid b2
         have Q3 := Lib.hid b3
         have hs9 := hb9.size
         obtain ⟨w10, hw10⟩ : ∃ w10, w9.alloc (.cells #[.bool (fl rb), .int .i64 (slotOf rb), .slice xb (payL rb).length xbc, .slice yb (outL rb).length ybc, .slice zb (hasL rb).length zbc, .int .i64 (rb.steps : Int)] 52) = w10 := ⟨_, rfl⟩
         have HN10 : Hid (w10.heap[w9.heap.size]? = some (.cells #[.bool (fl rb), .int .i64 (slotOf rb), .slice xb (payL rb).length xbc, .slice yb (outL rb).length ybc, .slice zb (hasL rb).length zbc, .int .i64 (rb.steps : Int)] 52 (0, 0))) := by rw [← hw10]; exact heap_alloc_new w9 _
         have HB910 : Hid (Below w9.heap.size w9 w10) := by rw [← hw10]; exact (Below.refl _ _).alloc (Nat.le_refl _) _
         have HA10 := Lib.hid ((HB910.out.block w2.heap.size (by omega)).trans hA9)
         have HC10 := Lib.hid ((HB910.out.block w7.heap.size (by omega)).trans hC9)
         have HB10 := Lib.hid (HB9.out.trans (HB910.out.mono HB9.out.size))
         have HB210 := Lib.hid (HB29.out.trans (HB910.out.mono HB29.out.size))
         have HB710 := Lib.hid (HB79.out.trans (HB910.out.mono HB79.out.size))
         have qa0 : w10.cell? ⟨w2.heap.size, 0, none⟩ = some (.bool false) := by rw [cell_of_row _ _ _ _ _ _ HA10.out]; rfl
         have qa5 : w10.cell? ⟨w2.heap.size, 5, none⟩ = some (.int .i64 (r.steps : Int)) := by rw [cell_of_row _ _ _ _ _ _ HA10.out]; rfl
         have qc0 : w10.cell? ⟨w7.heap.size, 0, none⟩ = some (.bool (fl rb)) := by rw [cell_of_row _ _ _ _ _ _ HC10.out]; rfl
         have qc1 : w10.cell? ⟨w7.heap.size, 1, none⟩ = some (.int .i64 (slotOf rb)) := by rw [cell_of_row _ _ _ _ _ _ HC10.out]; rfl
         have qc2 : w10.cell? ⟨w7.heap.size, 2, none⟩ = some (.slice xa' (payL rc).length xc') := by rw [cell_of_row _ _ _ _ _ _ HC10.out]; rfl
         have qc5 : w10.cell? ⟨w7.heap.size, 5, none⟩ = some (.int .i64 ((r.steps : Int) + (rb.steps : Int))) := by rw [cell_of_row _ _ _ _ _ _ HC10.out]; rfl
         have qb0 : w10.cell? ⟨w9.heap.size, 0, none⟩ = some (.bool (fl rb)) := by rw [cell_of_row _ _ _ _ _ _ HN10.out]; rfl
         have qb1 : w10.cell? ⟨w9.heap.size, 1, none⟩ = some (.int .i64 (slotOf rb)) := by rw [cell_of_row _ _ _ _ _ _ HN10.out]; rfl
         have qb2 : w10.cell? ⟨w9.heap.size, 2, none⟩ = some (.slice xb (payL rb).length xbc) := by rw [cell_of_row _ _ _ _ _ _ HN10.out]; rfl
         have qb5 : w10.cell? ⟨w9.heap.size, 5, none⟩ = some (.int .i64 (rb.steps : Int)) := by rw [cell_of_row _ _ _ _ _ _ HN10.out]; rfl
         have hx29 : w2.heap.size < w9.heap.size := by omega
         have hx79 : w7.heap.size < w9.heap.size := by omega
         clear hb9 b1 b2 b3 hA9 hC9
         go_wp2_with fail
         clear hw10
         have hB1 := ListAt.ofOwn (P1.out)
         have hB2 := ListAt.ofOwn (Q1.out)
         refine (sameBytes_any xa' xb _ xc' _ xbc (payL rc) (payL rb) _ (hB1.below HB710.out (Nat.le_refl _)) (hB2.below HB910.out (Nat.le_refl _)) (by omega)).mono ?_
         rintro e w11 ⟨rfl, hb11⟩
         have e1 : decide (payL rc = payL rb) = true := by rw [HPLc.out]; simp
         rw [e1]
         have HA11 := Lib.hid ((hb11.block w2.heap.size (lt_of_block HA10.out)).trans HA10.out)
         have HC11 := Lib.hid ((hb11.block w7.heap.size (lt_of_block HC10.out)).trans HC10.out)
         have HN11 := Lib.hid ((hb11.block w9.heap.size (lt_of_block HN10.out)).trans HN10.out)
         have HB11 := Lib.hid (HB10.out.trans (hb11.mono HB10.out.size))
         have HB211 := Lib.hid (HB210.out.trans (hb11.mono HB210.out.size))
         have HB711 := Lib.hid (HB710.out.trans (hb11.mono HB710.out.size))
         have HB911 := Lib.hid (HB910.out.trans (hb11.mono HB910.out.size))
         have L1 := Lib.hid (ListAt.ofOwn O2.out)
         have L2 := Lib.hid (ListAt.ofOwn O3.out)
         have L3 := Lib.hid (ListAt.ofOwn P2.out)
         have L4 := Lib.hid (ListAt.ofOwn P3.out)
         have L5 := Lib.hid (ListAt.ofOwn Q2.out)
         have L6 := Lib.hid (ListAt.ofOwn Q3.out)
         clear hb11 hB1 hB2 e1 qa0 qa5 qc0 qc1 qc2 qc5 qb0 qb1 qb2 qb5
         have hX1 : w2.heap.size < w11.heap.size := lt_of_block HA11.out
         have hX2 : w7.heap.size < w11.heap.size := lt_of_block HC11.out
         have hX3 : w9.heap.size < w11.heap.size := lt_of_block HN11.out
         cases hflb : fl rb with
         | true =>
          rw [hflb] at HN11
          have HFB := Lib.hid hflb
          clear hflb
          go_wp2_with fail
          go_loopw [17] (fun i wr => ∃ t : Nat, t ≤ im0 ∧ i = .int .i64 t ∧ Below w11.heap.size w11 wr) (fun i _ => im0 - (intOf i).toNat)
          case atStart => exact ⟨0, Nat.zero_le _, rfl, Below.refl _ _⟩
          case round =>
           obtain ⟨t, ht, rfl, hbr⟩ := hrel
           have HBr := Lib.hid hbr
           clear hbr
           have qb0 : wr.cell? ⟨w9.heap.size, 0, none⟩ = some (.bool true) := (HBr.out.cell (p := ⟨w9.heap.size, 0, none⟩) hX3).trans ((cell_of_row _ _ _ _ _ _ HN11.out).trans rfl)
           by_cases hlt : t < im0
           ·go_wp2_with fail
            go_ret
            exact ⟨rfl, HB11.out.trans (HBr.out.mono HB11.out.size)⟩
           ·go_wp2_with fail
            go_ret
            exact ⟨rfl, HB11.out.trans (HBr.out.mono HB11.out.size)⟩
         | false =>
          rw [hflb] at HN11
          have hflc : fl rc = false := by rw [HFL.out]; exact hflb
          have EB := Lib.hid (lists_of hflb)
          have EC := Lib.hid (lists_of hflc)
          have EA := Lib.hid (lists_of HF.out)
          clear hflb hflc
          go_wp2_with fail
          go_loopw [17] (fun i wr => ∃ t : Nat, t ≤ im0 ∧ i = .int .i64 t ∧ Below w11.heap.size w11 wr) (fun i _ => im0 - (intOf i).toNat)
          case atStart => exact ⟨0, Nat.zero_le _, rfl, Below.refl _ _⟩
          case round =>
           obtain ⟨t, ht, rfl, hbr⟩ := hrel
           have HBr := Lib.hid hbr
           clear hbr
           by_cases hlt : t < im0
           ·have n1 : t < (outL r).length := by rw [EA.out.1, HRK.out.outl]; exact hlt
            have n2 : t < (hasL r).length := by rw [EA.out.2, HRK.out.hasl]; exact hlt
            have n3 : t < (outL rc).length := by rw [EC.out.1, HLC.out.1]; exact hlt
            have n4 : t < (hasL rc).length := by rw [EC.out.2, HLC.out.2.1]; exact hlt
            have n5 : t < (outL rb).length := by rw [EB.out.1, HLB.out.1]; exact hlt
            have n6 : t < (hasL rb).length := by rw [EB.out.2, HLB.out.2.1]; exact hlt
            have hE := HEO2.out t hlt
            rw [← EA.out.1, ← EA.out.2, ← EB.out.1, ← EB.out.2, ← EC.out.1, ← EC.out.2] at hE
            obtain ⟨b1, o1, rfl, hl1, hc1⟩ := L1.out.at_ t (u64V ((outL r).getD t 0)) (by rw [List.getElem?_map, get_some n1]; rfl)
            obtain ⟨b2, o2, rfl, hl2, hc2⟩ := L2.out.at_ t (.bool ((hasL r).getD t false)) (by rw [List.getElem?_map, get_some n2]; rfl)
            obtain ⟨b3, o3, rfl, hl3, hc3⟩ := L3.out.at_ t (u64V ((outL rc).getD t 0)) (by rw [List.getElem?_map, get_some n3]; rfl)
            obtain ⟨b4, o4, rfl, hl4, hc4⟩ := L4.out.at_ t (.bool ((hasL rc).getD t false)) (by rw [List.getElem?_map, get_some n4]; rfl)
            obtain ⟨b5, o5, rfl, hl5, hc5⟩ := L5.out.at_ t (u64V ((outL rb).getD t 0)) (by rw [List.getElem?_map, get_some n5]; rfl)
            obtain ⟨b6, o6, rfl, hl6, hc6⟩ := L6.out.at_ t (.bool ((hasL rb).getD t false)) (by rw [List.getElem?_map, get_some n6]; rfl)
            have s2 := HB211.out.size
            have s7 := HB711.out.size
            have s9 := HB911.out.size
            replace hc1 := (HBr.out.cell (p := ⟨b1, o1 + t, none⟩) (Nat.lt_of_lt_of_le hl1 s2)).trans ((HB211.out.cell (p := ⟨b1, o1 + t, none⟩) hl1).trans hc1)
            replace hc2 := (HBr.out.cell (p := ⟨b2, o2 + t, none⟩) (Nat.lt_of_lt_of_le hl2 s2)).trans ((HB211.out.cell (p := ⟨b2, o2 + t, none⟩) hl2).trans hc2)
            replace hc3 := (HBr.out.cell (p := ⟨b3, o3 + t, none⟩) (Nat.lt_of_lt_of_le hl3 s7)).trans ((HB711.out.cell (p := ⟨b3, o3 + t, none⟩) hl3).trans hc3)
            replace hc4 := (HBr.out.cell (p := ⟨b4, o4 + t, none⟩) (Nat.lt_of_lt_of_le hl4 s7)).trans ((HB711.out.cell (p := ⟨b4, o4 + t, none⟩) hl4).trans hc4)
            replace hc5 := (HBr.out.cell (p := ⟨b5, o5 + t, none⟩) (Nat.lt_of_lt_of_le hl5 s9)).trans ((HB911.out.cell (p := ⟨b5, o5 + t, none⟩) hl5).trans hc5)
            replace hc6 := (HBr.out.cell (p := ⟨b6, o6 + t, none⟩) (Nat.lt_of_lt_of_le hl6 s9)).trans ((HB911.out.cell (p := ⟨b6, o6 + t, none⟩) hl6).trans hc6)
            have qa3 : wr.cell? ⟨w2.heap.size, 3, none⟩ = some (.slice (some ⟨b1, o1, none⟩) (outL r).length yc) := (HBr.out.cell (p := ⟨w2.heap.size, 3, none⟩) hX1).trans ((cell_of_row _ _ _ _ _ _ HA11.out).trans rfl)
            have qa4 : wr.cell? ⟨w2.heap.size, 4, none⟩ = some (.slice (some ⟨b2, o2, none⟩) (hasL r).length zc) := (HBr.out.cell (p := ⟨w2.heap.size, 4, none⟩) hX1).trans ((cell_of_row _ _ _ _ _ _ HA11.out).trans rfl)
            have qc3 : wr.cell? ⟨w7.heap.size, 3, none⟩ = some (.slice (some ⟨b3, o3, none⟩) (outL rc).length yc') := (HBr.out.cell (p := ⟨w7.heap.size, 3, none⟩) hX2).trans ((cell_of_row _ _ _ _ _ _ HC11.out).trans rfl)
            have qc4 : wr.cell? ⟨w7.heap.size, 4, none⟩ = some (.slice (some ⟨b4, o4, none⟩) (hasL rc).length zc') := (HBr.out.cell (p := ⟨w7.heap.size, 4, none⟩) hX2).trans ((cell_of_row _ _ _ _ _ _ HC11.out).trans rfl)
            have qb0 : wr.cell? ⟨w9.heap.size, 0, none⟩ = some (.bool false) := (HBr.out.cell (p := ⟨w9.heap.size, 0, none⟩) hX3).trans ((cell_of_row _ _ _ _ _ _ HN11.out).trans rfl)
            have qb3 : wr.cell? ⟨w9.heap.size, 3, none⟩ = some (.slice (some ⟨b5, o5, none⟩) (outL rb).length ybc) := (HBr.out.cell (p := ⟨w9.heap.size, 3, none⟩) hX3).trans ((cell_of_row _ _ _ _ _ _ HN11.out).trans rfl)
            have qb4 : wr.cell? ⟨w9.heap.size, 4, none⟩ = some (.slice (some ⟨b6, o6, none⟩) (hasL rb).length zbc) := (HBr.out.cell (p := ⟨w9.heap.size, 4, none⟩) hX3).trans ((cell_of_row _ _ _ _ _ _ HN11.out).trans rfl)
            unfold u64V at hc1 hc3 hc5
            clear hl1 hl2 hl3 hl4 hl5 hl6 s2 s7 s9
            generalize (outL r).getD t 0 = va at *
            generalize (hasL r).getD t false = ha at *
            generalize (outL rc).getD t 0 = vc at *
            generalize (hasL rc).getD t false = hc at *
            generalize (outL rb).getD t 0 = vb at *
            generalize (hasL rb).getD t false = hb at *
            have m0 : (0 : Int) ≤ (t : Int) := by omega
            have m1 : (t : Int) < ((outL r).length : Int) := by omega
            have m2 : (t : Int) < ((hasL r).length : Int) := by omega
            have m3 : (t : Int) < ((outL rc).length : Int) := by omega
            have m4 : (t : Int) < ((hasL rc).length : Int) := by omega
            have m5 : (t : Int) < ((outL rb).length : Int) := by omega
            have m6 : (t : Int) < ((hasL rb).length : Int) := by omega
            obtain ⟨e1, e2⟩ := hE
            cases hb <;> cases ha
            all_goals
             simp at e1 e2
             subst e1 e2
             go_wp2_with fail
             go_quiet (fail)
             go_wp2_with fail
             go_roundw
             case rel => exact ⟨t + 1, by omega, by go_num, belowN HBr.out _⟩
             case measure => simp [intOf]; omega
           ·obtain rfl : t = im0 := by omega
            have qb0 : wr.cell? ⟨w9.heap.size, 0, none⟩ = some (.bool false) := (HBr.out.cell (p := ⟨w9.heap.size, 0, none⟩) hX3).trans ((cell_of_row _ _ _ _ _ _ HN11.out).trans rfl)
            go_wp2_with fail
            go_ret
            exact ⟨rfl, HB11.out.trans (HBr.out.mono HB11.out.size)⟩
   ·have HM1 := Lib.hid hm
    clear hm
    go_wp2_with fail
    refine (program_no a1 len1 cap1 ps1 pn0 im0 _ (HP1.out.below HB4.out (Nat.le_refl _)) HWF1.out (HR.out.below HB4.out (Nat.le_refl _)) (by omega) HM1.out).mono ?_
    rintro e w5 ⟨⟨T, v, rfl⟩, hb5⟩
    have HB5 := Lib.hid (HB4.out.trans (hb5.mono hs4))
    clear hb5
    go_wp2_with fail
    refine (works14_any _ (HR.out.below HB5.out (Nat.le_refl _))).mono ?_
    rintro e w6 ⟨rfl, hb6⟩
    have HB6 := Lib.hid (HB5.out.trans (hb6.mono HB5.out.size))
    clear hb6
    go_wp2_with fail
    go_ret
    exact ⟨rfl, HB6.out⟩
  ·go_wp2_with fail
   refine (works14_any _ (HR.out.below HB4.out (Nat.le_refl _))).mono ?_
   rintro e w6 ⟨rfl, hb6⟩
   have HB6 := Lib.hid (HB4.out.trans (hb6.mono hs4))
   clear hb6
   go_wp2_with fail
   go_ret
   exact ⟨rfl, HB6.out⟩
 ·have HM := Lib.hid hm
  obtain ⟨T, v, he⟩ := Er.shape _ (progEr_no hm)
  have HE := Lib.hid he
  clear hm he
  go_enter Tryz.func36, Tryz.ntmps36
  go_wp2_with fail
  refine (run_no a0 pa0 ia0 len0 cap0 pn0 pc0 im0 ic0 ps0 _ (HP.out.below HBX.out (Nat.le_refl _)) HWF.out (HR.out.below HBX.out (Nat.le_refl _)) hl0 HM.out).mono ?_
  rintro e w2 ⟨rfl, hb2⟩
  rw [HE.out]
  have HB2 := Lib.hid (HBX.out.trans (hb2.mono (by simp)))
  have hs2 := HB2.out.size
  clear hb2
  go_wp2_with fail
  have hb3 := (Below.refl w2.heap.size w2).alloc (Nat.le_refl _) (.cells #[.bool false, .int .i64 0, .slice none 0 0, .slice none 0 0, .slice none 0 0, .int .i64 0] 52)
  refine (works14_any _ ((HR.out.below HB2.out (Nat.le_refl _)).below hb3 (Nat.le_refl _))).mono ?_
  rintro e w4 ⟨rfl, hb4⟩
  have HB4 := Lib.hid (HB2.out.trans ((hb3.trans (hb4.mono (by simp))).mono hs2))
  clear hb3 hb4
  go_wp2_with fail
  refine (works14_any _ (HR.out.below HB4.out (Nat.le_refl _))).mono ?_
  rintro e w6 ⟨rfl, hb6⟩
  have HB6 := Lib.hid (HB4.out.trans (hb6.mono HB4.out.size))
  clear hb6
  go_wp2_with fail
  go_ret
  exact ⟨rfl, HB6.out⟩

end LawVmBehind
end Go.Proofs.YtmpeipdeablkdaaGreatDoor

namespace Go.Proofs.YtmpeipdeablkdaaGreatDoor
open Go.RowKit Go.Proofs.YtmpeipdeablkdaaGreatDoor.Code

namespace LawVmSkips

attribute [local go_sem ↓] Go.wp_at_zero Go.wp_at_succ

theorem skip_wf (n : Nat) (h : n ≤ 3518437208780) : (⟨18, 0, 0, n, 0⟩ : B.Ins).Wf := by
 refine ⟨⟨?_, ?_⟩, ⟨?_, ?_⟩, ⟨?_, ?_⟩, ⟨?_, ?_⟩, ⟨?_, ?_⟩⟩ <;> simp <;> omega
set_option maxRecDepth 100000 in
set_option maxHeartbeats 3200000 in
theorem law (a0 : Option Addr) (len0 cap0 : Nat) (ps0 : List B.Ins) (pa0 : Option Addr) (pn0 pc0 : Nat) (pay0 : List Nat) (ia0 : Option Addr) (im0 ic0 : Nat) (inp0 : List Nat) (a1 : Option Addr) (len1 cap1 : Nat) (ps1 : List B.Ins) (w : World) (hp0 : ProgAt w a0 len0 ps0) (hwf0 : ∀ y ∈ ps0, y.Wf) (hn0 : a0 = none → cap0 = 0) (hl0 : len0 ≤ 9223372036854775807) (hy0 : ListAt w pa0 pn0 (pay0.map u8V)) (hb0 : B.Bytes pay0) (hyl0 : pn0 ≤ 9223372036854775807) (hu0 : ListAt w ia0 im0 (inp0.map u64V)) (hw0 : B.Words inp0) (hul0 : im0 ≤ 9223372036854775807) (hp1 : ProgAt w a1 len1 ps1) (hwf1 : ∀ y ∈ ps1, y.Wf) (hl1 : len1 * 40 ≤ 140737488351232) (hn1 : a1 = none → cap1 = 0) (hR : Tabs w) :
    Calls Tryz.prog 37 #[.agg #[.slice a0 len0 cap0, .slice pa0 pn0 pc0, .slice ia0 im0 ic0], .slice a1 len1 cap1] w (BoolOut true w) := by
 have _U0 := Lib.hid hn0
 have _U1 := Lib.hid hn1
 have _U2 := Lib.hid hyl0
 have _U3 := Lib.hid hul0
 have HP := Lib.hid hp0
 have HWF := Lib.hid hwf0
 have HY := Lib.hid hy0
 have HBY := Lib.hid hb0
 have HU := Lib.hid hu0
 have HW := Lib.hid hw0
 have HP1 := Lib.hid hp1
 have HWF1 := Lib.hid hwf1
 have HR := Lib.hid hR
 have hlw1 : len1 ≤ 3518437208780 := by omega
 have HBX := Lib.hid ((Below.refl w.heap.size w).alloc (Nat.le_refl _) (.cells #[.slice a0 len0 cap0, .slice pa0 pn0 pc0, .slice ia0 im0 ic0] 64))
 clear hp0 hwf0 hn0 hy0 hb0 hyl0 hu0 hw0 hul0 hp1 hwf1 hl1 hn1 hR
 by_cases hm : B.MayRun ps0 pn0 im0
 ·have HM := Lib.hid hm
  have hlen : len0 ≤ 16384 := by rw [HP.out.len]; exact hm.len
  clear hm
  obtain ⟨r, hq⟩ : ∃ r, B.run ps0 inp0 0 (B.start pay0 im0) = r := ⟨_, rfl⟩
  have HQ := Lib.hid hq
  clear hq
  go_enter Tryz.func37, Tryz.ntmps37
  go_wp2_with fail
  refine (run_same (r := r) (Same.refl r) rfl a0 pa0 ia0 len0 cap0 pn0 pc0 im0 ic0 ps0 pay0 inp0 _ (HP.out.below HBX.out (Nat.le_refl _)) HWF.out (HR.out.below HBX.out (Nat.le_refl _)) hl0 HM.out (HY.out.below HBX.out (Nat.le_refl _)) (HU.out.below HBX.out (Nat.le_refl _)) HBY.out HW.out HQ.out).mono ?_
  rintro e w2 ⟨xa, xc, ya, yc, za, zc, rfl, o1, o2, o3, ⟨s1, s2, s3⟩, hb2⟩
  have HB2 := Lib.hid (HBX.out.trans (hb2.mono (by simp)))
  have hs2 := HB2.out.size
  have O1 := Lib.hid o1
  have O2 := Lib.hid o2
  have O3 := Lib.hid o3
  clear o1 o2 o3 hb2
  go_wp2_with fail
  have hb3 := (Below.refl w2.heap.size w2).alloc (Nat.le_refl _) (.cells #[.bool (fl r), .int .i64 (slotOf r), .slice xa (payL r).length xc, .slice ya (outL r).length yc, .slice za (hasL r).length zc, .int .i64 (r.steps : Int)] 52)
  refine (works14_any _ ((HR.out.below HB2.out (Nat.le_refl _)).below hb3 (Nat.le_refl _))).mono ?_
  rintro e w4 ⟨rfl, hb4⟩
  have HA4 := Lib.hid ((hb4.block w2.heap.size (by simp)).trans (heap_alloc_new w2 _))
  have HB24 := Lib.hid (hb3.trans (hb4.mono (by simp)))
  have HB4 := Lib.hid (HB2.out.trans (HB24.out.mono hs2))
  have hs4 := HB4.out.size
  have hs24 : w2.heap.size + 1 ≤ w4.heap.size := by have := hb4.size; simpa using this
  clear hb3 hb4
  by_cases hsum : len0 + len1 + 1 ≤ 16384
  ·by_cases hm : B.MayRun ps1 pn0 im0
   ·have HM1 := Lib.hid hm
    clear hm
    go_wp2_with fail
    refine (program_yes a1 len1 cap1 ps1 pn0 im0 _ (HP1.out.below HB4.out (Nat.le_refl _)) HWF1.out (HR.out.below HB4.out (Nat.le_refl _)) (by omega) HM1.out).mono ?_
    rintro e w5 ⟨rfl, hb5⟩
    have HA5 := Lib.hid ((hb5.block w2.heap.size (by omega)).trans HA4.out)
    have HB5 := Lib.hid (HB4.out.trans (hb5.mono hs4))
    have HB25 := Lib.hid (HB24.out.trans (hb5.mono (by omega)))
    have hs5 := HB5.out.size
    have hs25 : w2.heap.size + 1 ≤ w5.heap.size := by have := hb5.size; omega
    clear hb5
    go_wp2_with fail
    go_loopw [10, 11] (fun v i wr => ∃ (k : Nat) (ao : Option Addr) (cp : Nat), k ≤ len1 ∧ i = .int .i64 k ∧ v = .slice ao (k + 1) cp ∧ OwnP wr w5.heap.size ao (k + 1) cp (⟨18, 0, 0, len1, 0⟩ :: ps1.take k) ∧ Below w5.heap.size w5 wr)
     (fun _ i _ => len1 - (intOf i).toNat)
    case atStart => exact ⟨0, some ⟨w5.heap.size, 0, none⟩, 1, Nat.zero_le _, rfl, rfl, ownP_new ⟨18, 0, 0, len1, 0⟩ w5 w5.heap.size w5.heap.size (Nat.le_refl _) rfl, (Below.refl _ _).alloc (Nat.le_refl _) _⟩
    case round =>
     obtain ⟨k, ao, cp, hk, rfl, rfl, hown, hb⟩ := hrel
     have HO := Lib.hid hown
     have HBr := Lib.hid hb
     have hsz := hb.size
     clear hown hb
     by_cases hlt : k < len1
     ·have hx : ps1[k]? = some (ps1[k]'(by have := HP1.out.len; omega)) := List.getElem?_eq_getElem _
      generalize ps1[k]'(by have := HP1.out.len; omega) = x at hx
      obtain ⟨b, off, rfl, hbl, hat⟩ := HP1.out.at_ k x hx
      obtain ⟨h0, h1, h2, h3, h4⟩ := hat.below (HB5.out.trans (HBr.out.mono hs5)) hbl
      have HX := Lib.hid hx
      clear hx hat hbl
      go_wp2_with (at_builtin; refine app_ins rfl _ _ rfl w5.heap.size rfl HO.out rfl (by omega) (by omega) ?_; intro ao' cp' w6 hown6 hb6 hs6)
      go_roundw
      case rel => exact ⟨k + 1, ao', cp', by omega, by go_num, rfl, by rw [take_snoc' _ _ _ HX.out]; exact hown6, HBr.out.trans hb6⟩
      case measure => simp [intOf]; omega
     ·obtain rfl : k = len1 := by omega
      have HO1 : Hid (OwnP wr w5.heap.size ao (k + 1) cp (⟨18, 0, 0, k, 0⟩ :: ps1)) := by
       have := HO.out
       rw [List.take_of_length_le (by have := HP1.out.len; omega)] at this
       exact this
      obtain ⟨wo, hwo⟩ : ∃ wo : World, wo = wr := ⟨_, rfl⟩
      subst hwo
      clear HO
      go_wp2_with fail
      go_loopw [10, 12] (fun v i wr => ∃ (j : Nat) (ao : Option Addr) (cp : Nat), j ≤ len0 ∧ i = .int .i64 j ∧ v = .slice ao (k + 1 + j) cp ∧ OwnP wr w5.heap.size ao (k + 1 + j) cp ((⟨18, 0, 0, k, 0⟩ :: ps1) ++ ps0.take j) ∧ Below w5.heap.size w5 wr)
       (fun _ i _ => len0 - (intOf i).toNat)
      case atStart => exact ⟨0, ao, cp, Nat.zero_le _, rfl, rfl, by rw [List.take_zero, List.append_nil]; exact HO1.out, HBr.out⟩
      case round =>
       obtain ⟨j, ao2, cp2, hj, rfl, rfl, hown, hb⟩ := hrel
       have HO := Lib.hid hown
       have HBq := Lib.hid hb
       have hszq := hb.size
       clear hown hb
       by_cases hltj : j < len0
       ·have hx : ps0[j]? = some (ps0[j]'(by have := HP.out.len; omega)) := List.getElem?_eq_getElem _
        generalize ps0[j]'(by have := HP.out.len; omega) = x at hx
        obtain ⟨b, off, rfl, hbl, hat⟩ := HP.out.at_ j x hx
        obtain ⟨h0, h1, h2, h3, h4⟩ := hat.below (HB5.out.trans (HBq.out.mono hs5)) hbl
        have HX := Lib.hid hx
        clear hx hat hbl
        go_wp2_with (at_builtin; refine app_ins rfl _ _ rfl w5.heap.size rfl HO.out rfl (by omega) (by omega) ?_; intro ao' cp' w6 hown6 hb6 hs6)
        go_roundw
        case rel => exact ⟨j + 1, ao', cp', by omega, by go_num, rfl, by rw [take_snoc' _ _ _ HX.out, ← List.append_assoc]; exact hown6, HBq.out.trans hb6⟩
        case measure => simp [intOf]; omega
       ·obtain rfl : j = len0 := by omega
        have HO2 : Hid (OwnP wr w5.heap.size ao2 (k + 1 + j) cp2 (⟨18, 0, 0, k, 0⟩ :: (ps1 ++ ps0))) := by
         have := HO.out
         rw [List.take_of_length_le (by have := HP.out.len; omega)] at this
         exact this
        have HBw := Lib.hid (HB5.out.trans (HBq.out.mono hs5))
        have HA6 := Lib.hid ((HBq.out.block w2.heap.size (by omega)).trans HA5.out)
        have hs6 : w5.heap.size ≤ wr.heap.size := hszq
        have HMQ : Hid (B.MayRun (⟨18, 0, 0, k, 0⟩ :: (ps1 ++ ps0)) pn0 im0) := by
         have h1 := HP1.out.len
         have h0 := HP.out.len
         show B.MayRun _ _ _
         rw [h1]
         exact HM.out.passed' HM1.out.ok (by omega)
        have HRQ : Hid (B.run (⟨18, 0, 0, k, 0⟩ :: (ps1 ++ ps0)) inp0 0 (B.start pay0 im0) = ⟨r.failed, r.st, r.steps + 1⟩) := by
         have h1 := HP1.out.len
         show B.run _ _ _ _ = _
         rw [h1, B.run_skip, HQ.out]
        have HWFQ : Hid (∀ y ∈ (⟨18, 0, 0, k, 0⟩ :: (ps1 ++ ps0) : List B.Ins), y.Wf) := by
         show ∀ y ∈ (⟨18, 0, 0, k, 0⟩ :: (ps1 ++ ps0) : List B.Ins), y.Wf
         intro y hy
         rcases List.mem_cons.1 hy with rfl | hy
         ·exact skip_wf k hlw1
         ·rcases List.mem_append.1 hy with h | h
          ·exact HWF1.out y h
          ·exact HWF.out y h
        clear HO hszq
        go_wp2_with fail
        refine (run_same (r := r) (r' := ⟨r.failed, r.st, r.steps + 1⟩) (n := r.steps + 1) ⟨rfl, rfl, rfl, rfl, rfl⟩ rfl ao2 pa0 ia0 (k + 1 + j) cp2 pn0 pc0 im0 ic0 _ pay0 inp0 _ HO2.out.progAt HWFQ.out (HR.out.below HBw.out (Nat.le_refl _)) (by omega) HMQ.out (HY.out.below HBw.out (Nat.le_refl _)) (HU.out.below HBw.out (Nat.le_refl _)) HBY.out HW.out HRQ.out).mono ?_
        rintro e w7 ⟨xa', xc', ya', yc', za', zc', rfl, o1, o2, o3, _, hb7⟩
        have hG : w7.heap[w2.heap.size]? = _ := (hb7.block w2.heap.size (by omega)).trans HA6.out
        have q0 : w7.cell? ⟨w2.heap.size, 0, none⟩ = some (.bool (fl r)) := by rw [cell_of_row _ _ _ _ _ _ hG]; rfl
        have q1 : w7.cell? ⟨w2.heap.size, 1, none⟩ = some (.int .i64 (slotOf r)) := by rw [cell_of_row _ _ _ _ _ _ hG]; rfl
        have q2 : w7.cell? ⟨w2.heap.size, 2, none⟩ = some (.slice xa (payL r).length xc) := by rw [cell_of_row _ _ _ _ _ _ hG]; rfl
        have q3 : w7.cell? ⟨w2.heap.size, 3, none⟩ = some (.slice ya (outL r).length yc) := by rw [cell_of_row _ _ _ _ _ _ hG]; rfl
        have q4 : w7.cell? ⟨w2.heap.size, 4, none⟩ = some (.slice za (hasL r).length zc) := by rw [cell_of_row _ _ _ _ _ _ hG]; rfl
        have q5 : w7.cell? ⟨w2.heap.size, 5, none⟩ = some (.int .i64 (r.steps : Int)) := by rw [cell_of_row _ _ _ _ _ _ hG]; rfl
        have f5 : w7.frozen? ⟨w2.heap.size, 5, none⟩ = false := frozen_blk hG
        have hX7 : w2.heap.size < w7.heap.size := lt_of_block hG
        have HG7 := Lib.hid hG
        have P1 := Lib.hid o1
        have P2 := Lib.hid o2
        have P3 := Lib.hid o3
        have HB7 := Lib.hid (HBw.out.trans (hb7.mono (by omega)))
        have HB27 := Lib.hid (HB25.out.trans ((HBq.out.mono (by omega)).trans (hb7.mono (by omega))))
        have hrs : r.steps ≤ 16384 := by have := B.steps_le ps0 inp0 0 (B.start pay0 im0); rw [HQ.out] at this; have := HP.out.len; omega
        clear hG o1 o2 o3 hb7
        go_wp2_with fail
        obtain ⟨w8, hw8⟩ : ∃ w8, ((w7.setCell ⟨w2.heap.size, 5, none⟩ (.int .i64 ((r.steps : Int) + 1))).alloc (.cells #[.bool (fl r), .int .i64 (slotOf r), .slice xa' (payL r).length xc', .slice ya' (outL r).length yc', .slice za' (hasL r).length zc', .int .i64 ((r.steps : Int) + 1)] 52)) = w8 := ⟨_, rfl⟩
        rw [hw8]
        have hB8 : Below w2.heap.size w2 w8 := by rw [← hw8]; exact (HB27.out.setCell (Nat.le_refl _) _).alloc (by simp; omega) _
        have HB8 : Hid (Below w.heap.size w w8) := by rw [← hw8]; exact (HB7.out.setCell hs2 _).alloc (by simp; omega) _
        have hpb : ∀ k, wr.heap.size ≤ k ∧ k < w7.heap.size → w8.heap[k]? = w7.heap[k]? := by
         intro k hk
         rw [← hw8]
         exact ((World.grownBy_alloc _ _ none).block k (by simp; omega) (by simp)).trans (blk_other _ (by show k ≠ w2.heap.size; omega))
        have A1 := Lib.hid ((ListAt.ofOwn O1.out).below hB8 (Nat.le_refl _))
        have A2 := Lib.hid ((ListAt.ofOwn O2.out).below hB8 (Nat.le_refl _))
        have A3 := Lib.hid ((ListAt.ofOwn O3.out).below hB8 (Nat.le_refl _))
        have B1 := Lib.hid (ListAt.ofOwn (ownsRow_of P1.out (fun k hk => hpb k (P1.out.lt k hk))))
        have B2 := Lib.hid (ListAt.ofOwn (ownsRow_of P2.out (fun k hk => hpb k (P2.out.lt k hk))))
        have B3 := Lib.hid (ListAt.ofOwn (ownsRow_of P3.out (fun k hk => hpb k (P3.out.lt k hk))))
        clear hw8 hB8 hpb q0 q1 q2 q3 q4 q5 f5
        refine (sameRan_any (fl r) (slotOf r) ((r.steps : Int) + 1) xa xa' ya ya' za za' _ xc xc' _ yc yc' _ zc zc' (payL r) (outL r) (hasL r) w8 A1.out B1.out A2.out B2.out A3.out B3.out ⟨by omega, by omega, by omega⟩).mono ?_
        rintro e w9 ⟨rfl, hb9⟩
        have HB9 := Lib.hid (HB8.out.trans (hb9.mono HB8.out.size))
        clear hb9
        go_wp2_with fail
        go_ret
        exact ⟨rfl, HB9.out⟩
   ·have HM1 := Lib.hid hm
    clear hm
    go_wp2_with fail
    refine (program_no a1 len1 cap1 ps1 pn0 im0 _ (HP1.out.below HB4.out (Nat.le_refl _)) HWF1.out (HR.out.below HB4.out (Nat.le_refl _)) (by omega) HM1.out).mono ?_
    rintro e w5 ⟨⟨T, v, rfl⟩, hb5⟩
    have HB5 := Lib.hid (HB4.out.trans (hb5.mono hs4))
    clear hb5
    go_wp2_with fail
    refine (works14_any _ (HR.out.below HB5.out (Nat.le_refl _))).mono ?_
    rintro e w6 ⟨rfl, hb6⟩
    have HB6 := Lib.hid (HB5.out.trans (hb6.mono HB5.out.size))
    clear hb6
    go_wp2_with fail
    go_ret
    exact ⟨rfl, HB6.out⟩
  ·go_wp2_with fail
   refine (works14_any _ (HR.out.below HB4.out (Nat.le_refl _))).mono ?_
   rintro e w6 ⟨rfl, hb6⟩
   have HB6 := Lib.hid (HB4.out.trans (hb6.mono hs4))
   clear hb6
   go_wp2_with fail
   go_ret
   exact ⟨rfl, HB6.out⟩
 ·have HM := Lib.hid hm
  obtain ⟨T, v, he⟩ := Er.shape _ (progEr_no hm)
  have HE := Lib.hid he
  clear hm he
  go_enter Tryz.func37, Tryz.ntmps37
  go_wp2_with fail
  refine (run_no a0 pa0 ia0 len0 cap0 pn0 pc0 im0 ic0 ps0 _ (HP.out.below HBX.out (Nat.le_refl _)) HWF.out (HR.out.below HBX.out (Nat.le_refl _)) hl0 HM.out).mono ?_
  rintro e w2 ⟨rfl, hb2⟩
  rw [HE.out]
  have HB2 := Lib.hid (HBX.out.trans (hb2.mono (by simp)))
  have hs2 := HB2.out.size
  clear hb2
  go_wp2_with fail
  have hb3 := (Below.refl w2.heap.size w2).alloc (Nat.le_refl _) (.cells #[.bool false, .int .i64 0, .slice none 0 0, .slice none 0 0, .slice none 0 0, .int .i64 0] 52)
  refine (works14_any _ ((HR.out.below HB2.out (Nat.le_refl _)).below hb3 (Nat.le_refl _))).mono ?_
  rintro e w4 ⟨rfl, hb4⟩
  have HB4 := Lib.hid (HB2.out.trans ((hb3.trans (hb4.mono (by simp))).mono hs2))
  clear hb3 hb4
  go_wp2_with fail
  refine (works14_any _ (HR.out.below HB4.out (Nat.le_refl _))).mono ?_
  rintro e w6 ⟨rfl, hb6⟩
  have HB6 := Lib.hid (HB4.out.trans (hb6.mono HB4.out.size))
  clear hb6
  go_wp2_with fail
  go_ret
  exact ⟨rfl, HB6.out⟩

end LawVmSkips
end Go.Proofs.YtmpeipdeablkdaaGreatDoor

namespace Go.Proofs.YtmpeipdeablkdaaGreatDoor
open Go.RowKit Go.Proofs.YtmpeipdeablkdaaGreatDoor.Code

namespace LawVmNamed

attribute [local go_sem ↓] Go.wp_at_zero Go.wp_at_succ

theorem named_vals (x : B.Ins) (k t : Int) (hr : x.right = true) (hk0 : 0 ≤ k) (hk1 : k < 16) (ht0 : 0 ≤ t) (ht1 : t ≤ 15) (w : World) :
    Calls Tryz.prog 80 #[.agg #[.int .i64 x.op, .int .i64 x.a, .int .i64 x.b, .int .i64 x.n, .int .u64 x.imm], .int .i64 k, .int .i64 t] w
     (fun e w' => e = .returned (.agg #[.int .i64 (x.ren (renT k t)).op, .int .i64 (x.ren (renT k t)).a, .int .i64 (x.ren (renT k t)).b, .int .i64 (x.ren (renT k t)).n, .int .u64 (x.ren (renT k t)).imm]) ∧ Below w.heap.size w w') := by
 exact named14_any x k t hr hk0 hk1 ht0 ht1 w

theorem ins_range {w : World} {b o : Nat} {x : B.Ins} (h : InsAt w b o x) : w.rangeAt b o (cellsI x) := by
 obtain ⟨h0, h1, h2, h3, h4⟩ := h
 intro j v hv
 have hj : j < 5 := by have := (List.getElem?_eq_some_iff.1 hv).1; rw [cellsI_length] at this; exact this
 have : j = 0 ∨ j = 1 ∨ j = 2 ∨ j = 3 ∨ j = 4 := by omega
 rcases this with rfl | rfl | rfl | rfl | rfl <;> (simp [cellsI] at hv; subst hv; assumption)

/-- .. the run of a program renamed tells the same -/
theorem same_ren {f : Int → Int} (hf : B.Renames f) {ps : List B.Ins} {pn im : Int} (ok : B.OkTouch ps pn im) {inp pay : List Nat} {m : Nat} {r : B.Out} (hq : B.run ps inp 0 (B.start pay m) = r) :
    Same r (B.run (ps.map (B.Ins.ren f)) inp 0 (B.start pay m)) ∧ (B.run (ps.map (B.Ins.ren f)) inp 0 (B.start pay m)).steps = r.steps := by
 have h := B.run_ren hf ok.mem (inp := inp) 0 (B.start pay m) (B.start pay m) ⟨rfl, rfl, rfl, fun _ _ => rfl⟩
 rw [hq] at h
 obtain ⟨h1, h2, h3⟩ := h
 refine ⟨⟨?_, ?_, ?_, ?_, ?_⟩, h2⟩
 ·unfold fl; rw [h1]
 ·unfold slotOf; rw [h1]
 ·unfold payL; rw [h1, h3.pay]
 ·unfold outL; rw [h1, h3.out]
 ·unfold hasL; rw [h1, h3.has]
set_option maxRecDepth 100000 in
set_option maxHeartbeats 3200000 in
theorem law (a0 : Option Addr) (len0 cap0 : Nat) (ps0 : List B.Ins) (pa0 : Option Addr) (pn0 pc0 : Nat) (pay0 : List Nat) (ia0 : Option Addr) (im0 ic0 : Nat) (inp0 : List Nat) (n1 : Int) (n2 : Int) (w : World) (hp0 : ProgAt w a0 len0 ps0) (hwf0 : ∀ y ∈ ps0, y.Wf) (hn0 : a0 = none → cap0 = 0) (hl0 : len0 ≤ 9223372036854775807) (hy0 : ListAt w pa0 pn0 (pay0.map u8V)) (hb0 : B.Bytes pay0) (hyl0 : pn0 ≤ 9223372036854775807) (hu0 : ListAt w ia0 im0 (inp0.map u64V)) (hw0 : B.Words inp0) (hul0 : im0 ≤ 9223372036854775807) (hR : Tabs w) (hi1 : B.In64 n1) (hi2 : B.In64 n2) :
    Calls Tryz.prog 38 #[.agg #[.slice a0 len0 cap0, .slice pa0 pn0 pc0, .slice ia0 im0 ic0], .int .i64 n1, .int .i64 n2] w (BoolOut true w) := by
 have _U0 := Lib.hid hn0
 have _U2 := Lib.hid hyl0
 have _U3 := Lib.hid hul0
 have HP := Lib.hid hp0
 have HWF := Lib.hid hwf0
 have HY := Lib.hid hy0
 have HBY := Lib.hid hb0
 have HU := Lib.hid hu0
 have HW := Lib.hid hw0
 have HR := Lib.hid hR
 have HBX := Lib.hid ((Below.refl w.heap.size w).alloc (Nat.le_refl _) (.cells #[.slice a0 len0 cap0, .slice pa0 pn0 pc0, .slice ia0 im0 ic0] 64))
 have HBK := Lib.hid (heap_alloc_new w (.cells #[.slice a0 len0 cap0, .slice pa0 pn0 pc0, .slice ia0 im0 ic0] 64))
 have hrng := pickV_range n1 16 (by omega)
 have HPK := Lib.hid (pick_any n1 16 hi1 (by omega) (by omega))
 have hrng2 := pickV_range n2 8 (by omega)
 have HPK2 := Lib.hid (pick_any n2 8 hi2 (by omega) (by omega))
 clear hp0 hwf0 hn0 hy0 hb0 hyl0 hu0 hw0 hul0 hR hi1 hi2
 generalize pickV n1 16 = kk at *
 generalize pickV n2 8 = tt at *
 obtain ⟨kk0, kk1⟩ := hrng
 obtain ⟨tt0, tt1⟩ := hrng2
 have HTT : Hid (∃ m : Int, 0 ≤ m ∧ m < 8 ∧ 2 * tt + 1 = 2 * m + 1) := ⟨tt, tt0, tt1, rfl⟩
 have tw1 : IntKind.i64.wrap (2 * tt) = 2 * tt := IntWalk.i64_in _ (by omega)
 have tw2 : IntKind.i64.wrap (2 * tt + 1) = 2 * tt + 1 := IntWalk.i64_in _ (by omega)
 have HT1 := Lib.hid tw1
 have HT2 := Lib.hid tw2
 clear tw1 tw2
 by_cases hm : B.MayRun ps0 pn0 im0
 ·have HM := Lib.hid hm
  have hlen : len0 ≤ 16384 := by rw [HP.out.len]; exact hm.len
  clear hm
  obtain ⟨r, hq⟩ : ∃ r, B.run ps0 inp0 0 (B.start pay0 im0) = r := ⟨_, rfl⟩
  have HQ := Lib.hid hq
  clear hq
  go_enter Tryz.func38, Tryz.ntmps38
  go_wp2_with fail
  refine (run_same (r := r) (Same.refl r) rfl a0 pa0 ia0 len0 cap0 pn0 pc0 im0 ic0 ps0 pay0 inp0 _ (HP.out.below HBX.out (Nat.le_refl _)) HWF.out (HR.out.below HBX.out (Nat.le_refl _)) hl0 HM.out (HY.out.below HBX.out (Nat.le_refl _)) (HU.out.below HBX.out (Nat.le_refl _)) HBY.out HW.out HQ.out).mono ?_
  rintro e w2 ⟨xa, xc, ya, yc, za, zc, rfl, o1, o2, o3, ⟨s1, s2, s3⟩, hb2⟩
  have HB2 := Lib.hid (HBX.out.trans (hb2.mono (by simp)))
  have HK2 := Lib.hid ((hb2.block w.heap.size (by simp)).trans HBK.out)
  have hs2 := HB2.out.size
  have hs02 : w.heap.size < w2.heap.size := lt_of_block HK2.out
  have O1 := Lib.hid o1
  have O2 := Lib.hid o2
  have O3 := Lib.hid o3
  clear o1 o2 o3 hb2
  go_wp2_with fail
  have hb3 := (Below.refl w2.heap.size w2).alloc (Nat.le_refl _) (.cells #[.bool (fl r), .int .i64 (slotOf r), .slice xa (payL r).length xc, .slice ya (outL r).length yc, .slice za (hasL r).length zc, .int .i64 (r.steps : Int)] 52)
  refine (works14_any _ ((HR.out.below HB2.out (Nat.le_refl _)).below hb3 (Nat.le_refl _))).mono ?_
  rintro e w4 ⟨rfl, hb4⟩
  have HA4 := Lib.hid ((hb4.block w2.heap.size (by simp)).trans (heap_alloc_new w2 _))
  have HB24 := Lib.hid (hb3.trans (hb4.mono (by simp)))
  have HB4 := Lib.hid (HB2.out.trans (HB24.out.mono hs2))
  have HK4 := Lib.hid ((HB24.out.block w.heap.size hs02).trans HK2.out)
  have hs4 := HB4.out.size
  have hs24 : w2.heap.size < w4.heap.size := lt_of_block HA4.out
  have hs04 : w.heap.size < w4.heap.size := lt_of_block HK4.out
  clear hb3 hb4
  go_wp2_with fail
  go_loopw [9, 10] (fun v i wr => ∃ (k : Nat) (ao : Option Addr) (cp : Nat), k ≤ len0 ∧ i = .int .i64 k ∧ v = .slice ao k cp ∧ OwnP wr w4.heap.size ao k cp ((ps0.take k).map (B.Ins.ren (renT kk (2 * tt + 1)))) ∧ Below w4.heap.size w4 wr)
   (fun _ i _ => len0 - (intOf i).toNat)
  case atStart => exact ⟨0, none, 0, Nat.zero_le _, rfl, rfl, OwnP.nil _ _, Below.refl _ _⟩
  case round =>
   obtain ⟨k, ao, cp, hk, rfl, rfl, hown, hb⟩ := hrel
   have HB := Lib.hid hb
   have HO := Lib.hid hown
   have hsz := hb.size
   have hbk := (hb.block w.heap.size hs04).trans HK4.out
   have g0 : wr.cell? ⟨w.heap.size, 0, none⟩ = some (.slice a0 len0 cap0) := (cell_of_row _ _ _ _ _ _ hbk).trans rfl
   have g1 : wr.cell? ⟨w.heap.size, 1, none⟩ = some (.slice pa0 pn0 pc0) := (cell_of_row _ _ _ _ _ _ hbk).trans rfl
   have g2 : wr.cell? ⟨w.heap.size, 2, none⟩ = some (.slice ia0 im0 ic0) := (cell_of_row _ _ _ _ _ _ hbk).trans rfl
   clear hb hown hbk
   by_cases hlt : k < len0
   ·have hx : ps0[k]? = some (ps0[k]'(by have := HP.out.len; omega)) := List.getElem?_eq_getElem _
    generalize ps0[k]'(by have := HP.out.len; omega) = x at hx
    obtain ⟨b, off, rfl, hbl, hat⟩ := HP.out.at_ k x hx
    have HX := Lib.hid hx
    have HRX := Lib.hid (HM.out.ok.right k x hx)
    have HAT := Lib.hid (hat.below HB4.out hbl)
    have HC : Hid (w4.cell? ⟨w.heap.size, 0, none⟩ = some (.slice (some ⟨b, off, none⟩) len0 cap0)) := (cell_of_row _ _ _ _ _ _ HK4.out).trans rfl
    have hbr : b < w4.heap.size := by omega
    have jb0 : (0 : Int) ≤ (k : Int) := by omega
    have jb1 : (k : Int) < (len0 : Int) := by omega
    clear hx hat g1 g2
    go_wp2_with fail
    refine wp_region_held_drew (S := Below w4.heap.size w4) (by kernel_rfl) HB.out.drew (fun hS1 => ?_)
    refine take_slot (i := 0) (d := 37) (v := .slice ao k cp) rfl rfl (by kernel_rfl) (by kernel_rfl) (by kernel_rfl) (fun _ _ _ h => h) (Or.inl ⟨by rfl, fun w' _ => by go_simp⟩) hS1 ?_
    simp only [Act.put, List.setIfInBounds_toArray, List.set_cons_zero, List.set_cons_succ]
    refine take_slot (i := 1) (d := 38) (v := .pointer (some ⟨w.heap.size, 0, none⟩)) rfl rfl (by kernel_rfl) (by kernel_rfl) (by kernel_rfl) (fun _ _ _ h => h) (Or.inl ⟨by rfl, fun w' _ => by go_simp⟩) hS1 ?_
    simp only [Act.put, List.setIfInBounds_toArray, List.set_cons_zero, List.set_cons_succ]
    refine take_slot (i := 2) (d := 39) (v := .slice (some ⟨b, off, none⟩) len0 cap0) rfl rfl (by kernel_rfl) (by kernel_rfl) (by kernel_rfl) (fun _ _ _ h => h) (Or.inl ⟨by rfl, fun w' h => by have e := (h.cell (p := ⟨w.heap.size, 0, none⟩) hs04).trans HC.out; go_simp⟩) hS1 ?_
    simp only [Act.put, List.setIfInBounds_toArray, List.set_cons_zero, List.set_cons_succ]
    refine take_slot (i := 3) (d := 40) (v := .int .i64 (k : Int)) rfl rfl (by kernel_rfl) (by kernel_rfl) (by kernel_rfl) (fun _ _ _ h => h) (Or.inl ⟨by rfl, fun w' _ => by go_simp⟩) hS1 ?_
    simp only [Act.put, List.setIfInBounds_toArray, List.set_cons_zero, List.set_cons_succ]
    refine take_slot (i := 4) (d := 41) (v := .pointer (some ⟨b, off + k * 5, none⟩)) rfl rfl (by kernel_rfl) (by kernel_rfl) (by kernel_rfl) (fun _ _ _ h => h) (Or.inl ⟨by rfl, fun w' _ => by go_simp⟩) hS1 ?_
    simp only [Act.put, List.setIfInBounds_toArray, List.set_cons_zero, List.set_cons_succ]
    refine take_slot (i := 5) (d := 42) (v := .agg #[.int .i64 x.op, .int .i64 x.a, .int .i64 x.b, .int .i64 x.n, .int .u64 x.imm]) rfl rfl (by kernel_rfl) (by kernel_rfl) (by kernel_rfl) (fun _ _ _ h => h) (yieldsIf_load_mid (by rfl) _ _ rfl b (off + k * 5) (by rfl) (cellsI x) _ (fun w' h => ins_range (HAT.out.below h hbr)) Tryz.underlying24 rfl (by kernel_rfl)) hS1 ?_
    simp only [Act.put, List.setIfInBounds_toArray, List.set_cons_zero, List.set_cons_succ]
    refine take_slot (i := 6) (d := 43) (v := .int .i64 n1) rfl rfl (by kernel_rfl) (by kernel_rfl) (by kernel_rfl) (fun _ _ _ h => h) (Or.inl ⟨by rfl, fun w' _ => by go_simp⟩) hS1 ?_
    simp only [Act.put, List.setIfInBounds_toArray, List.set_cons_zero, List.set_cons_succ]
    refine take_slot (i := 8) (d := 45) (v := .int .i64 n2) rfl rfl (by kernel_rfl) (by kernel_rfl) (by kernel_rfl) (fun _ _ _ h => h) (Or.inl ⟨by rfl, fun w' _ => by go_simp⟩) hS1 ?_
    simp only [Act.put, List.setIfInBounds_toArray, List.set_cons_zero, List.set_cons_succ]
    refine wpAnyH_ready (rs := [7]) (by kernel_rfl) (by simp) ?_
    refine AllReadyH.cons rfl (fun K hK => ?_) AllReadyH.nil
    go_simp
    refine (HPK.out _).mono ?_
    rintro e w5 ⟨rfl, rfl⟩
    refine hK.out _ _ hS1 (fun hS2 => ?_)
    clear hK K
    refine wpAnyH_ready (rs := [9]) (by kernel_rfl) (by simp) ?_
    refine AllReadyH.cons rfl (fun K hK => ?_) AllReadyH.nil
    go_simp
    refine (HPK2.out _).mono ?_
    rintro e w5 ⟨rfl, rfl⟩
    refine hK.out _ _ hS1 (fun hS3 => ?_)
    clear hK K
    have tw1 := HT1.out
    have tw2 := HT2.out
    refine take_slot (i := 10) (d := 47) (v := .int .i64 (2 * tt)) rfl rfl (by kernel_rfl) (by kernel_rfl) (by kernel_rfl) (fun _ _ _ h => h) (Or.inl ⟨by rfl, fun w' _ => by go_simp⟩) hS1 ?_
    simp only [Act.put, List.setIfInBounds_toArray, List.set_cons_zero, List.set_cons_succ]
    refine take_slot (i := 11) (d := 48) (v := .int .i64 (2 * tt + 1)) rfl rfl (by kernel_rfl) (by kernel_rfl) (by kernel_rfl) (fun _ _ _ h => h) (Or.inl ⟨by rfl, fun w' _ => by go_simp⟩) hS1 ?_
    simp only [Act.put, List.setIfInBounds_toArray, List.set_cons_zero, List.set_cons_succ]
    clear tw1 tw2
    refine wpAnyH_ready (rs := [12]) (by kernel_rfl) (by simp) ?_
    refine AllReadyH.cons rfl (fun K hK => ?_) AllReadyH.nil
    go_simp
    refine (named_vals x kk (2 * tt + 1) HRX.out kk0 kk1 (by omega) (by omega) _).mono ?_
    rintro e w5 ⟨rfl, hb5⟩
    have hbr5 : Below wr.heap.size wr w5 := ((Below.refl _ wr).drew).trans hb5
    have hS4 := HB.out.trans (hbr5.mono hsz)
    refine hK.out _ _ hS4 (fun _ => ?_)
    clear hK K
    have hs5 := hS4.size
    have HX2 : Hid ((ps0.take (k + 1)).map (B.Ins.ren (renT kk (2 * tt + 1))) = (ps0.take k).map (B.Ins.ren (renT kk (2 * tt + 1))) ++ [x.ren (renT kk (2 * tt + 1))]) := by rw [take_snoc' _ _ _ HX.out, List.map_append]; rfl
    generalize x.ren (renT kk (2 * tt + 1)) = y at *
    refine wpAnyH_ready (rs := [13]) (by kernel_rfl) (by simp) ?_
    refine AllReadyH.cons rfl (fun K hK => ?_) AllReadyH.nil
    go_simp
    refine hK.out _ _ (hS4.alloc hs5 _) (fun hS5 => ?_)
    clear hK K
    refine wpAnyH_ready (rs := [14]) (by kernel_rfl) (by simp) ?_
    refine AllReadyH.cons rfl (fun K hK => ?_) AllReadyH.nil
    have HO5 := Lib.hid (((HO.out.kept hbr5).own).alloc (.cells #[.int .i64 y.op, .int .i64 y.a, .int .i64 y.b, .int .i64 y.n, .int .u64 y.imm] 24))
    refine step_app Tryz.underlying26 info24 rfl (by decide) rfl _ _ (by rfl) w4.heap.size (by rfl) HO5.out (by rfl) (heap_alloc_new w5 _) rfl rfl (by simp [Value.oneCell']) (by omega) (by omega) hS5.size ?_
    intro ao' cp' w6 hown6 _ hb6 hs6
    refine hK.out _ _ (hS5.trans hb6) (fun hS6 => ?_)
    clear hK K
    refine take_slot (i := 15) (d := 9) (v := .slice ao' (k + 1) cp') rfl rfl (by kernel_rfl) (by kernel_rfl) (by kernel_rfl) (fun _ _ _ h => h) (Or.inl ⟨by rfl, fun w' _ => by go_simp⟩) hS6 ?_
    simp only [Act.put, List.setIfInBounds_toArray]
    refine wpAnyH_done (by kernel_rfl) ?_ _
    have HO6 := Lib.hid hown6
    have HS6 := Lib.hid hS6
    have HLK := Lib.hid HO.out.len
    clear hown6 hS6 hb6 hS1 hS2 hS3 hS4 hS5 hb5 hbr5
    go_wp2_with fail
    go_roundw
    case rel => exact ⟨k + 1, ao', cp', by omega, by go_num, rfl, ⟨by rw [HX2.out, List.length_append, ← HLK.out]; rfl, by rw [HX2.out, cellsP_append, cellsP_one]; exact HO6.out⟩, HS6.out⟩
    case measure => simp [intOf]; omega
   ·obtain rfl : k = len0 := by omega
    have HO1 : Hid (OwnP wr w4.heap.size ao k cp (ps0.map (B.Ins.ren (renT kk (2 * tt + 1))))) := by
     have := HO.out
     rw [List.take_of_length_le (by have := HP.out.len; omega)] at this
     exact this
    have HBw := Lib.hid (HB4.out.trans (HB.out.mono hs4))
    have HA6 := Lib.hid ((HB.out.block w2.heap.size hs24).trans HA4.out)
    have HB26 := Lib.hid (HB24.out.trans (HB.out.mono (by omega)))
    have HF := Lib.hid (renT_ok kk0 kk1 HTT.out)
    have HMQ := Lib.hid ((B.program_ok _ _ _).1 ((B.program_ren HF.out HM.out.ok).trans ((B.program_ok _ _ _).2 HM.out)))
    have hsr := same_ren HF.out HM.out.ok HQ.out
    have HS1 := Lib.hid hsr.1
    have HS2 := Lib.hid hsr.2
    have HWFQ : Hid (∀ y ∈ ps0.map (B.Ins.ren (renT kk (2 * tt + 1))), y.Wf) := by
     show ∀ y ∈ ps0.map (B.Ins.ren (renT kk (2 * tt + 1))), y.Wf
     intro y hy
     obtain ⟨x, hx, rfl⟩ := List.mem_map.1 hy
     exact renT_wf kk0 kk1 HTT.out (HM.out.ok.mem x hx)
    clear hsr HO
    go_wp2_with fail
    refine (run_same HS1.out HS2.out ao pa0 ia0 k cp pn0 pc0 im0 ic0 _ pay0 inp0 _ HO1.out.progAt HWFQ.out (HR.out.below HBw.out (Nat.le_refl _)) (by omega) HMQ.out (HY.out.below HBw.out (Nat.le_refl _)) (HU.out.below HBw.out (Nat.le_refl _)) HBY.out HW.out rfl).mono ?_
    rintro e w7 ⟨xa', xc', ya', yc', za', zc', rfl, o1, o2, o3, _, hb7⟩
    have hG : w7.heap[w2.heap.size]? = _ := (hb7.block w2.heap.size (by omega)).trans HA6.out
    have q0 : w7.cell? ⟨w2.heap.size, 0, none⟩ = some (.bool (fl r)) := by rw [cell_of_row _ _ _ _ _ _ hG]; rfl
    have q1 : w7.cell? ⟨w2.heap.size, 1, none⟩ = some (.int .i64 (slotOf r)) := by rw [cell_of_row _ _ _ _ _ _ hG]; rfl
    have q2 : w7.cell? ⟨w2.heap.size, 2, none⟩ = some (.slice xa (payL r).length xc) := by rw [cell_of_row _ _ _ _ _ _ hG]; rfl
    have q3 : w7.cell? ⟨w2.heap.size, 3, none⟩ = some (.slice ya (outL r).length yc) := by rw [cell_of_row _ _ _ _ _ _ hG]; rfl
    have q4 : w7.cell? ⟨w2.heap.size, 4, none⟩ = some (.slice za (hasL r).length zc) := by rw [cell_of_row _ _ _ _ _ _ hG]; rfl
    have q5 : w7.cell? ⟨w2.heap.size, 5, none⟩ = some (.int .i64 (r.steps : Int)) := by rw [cell_of_row _ _ _ _ _ _ hG]; rfl
    have P1 := Lib.hid o1
    have P2 := Lib.hid o2
    have P3 := Lib.hid o3
    have HB7 := Lib.hid (HBw.out.trans (hb7.mono (by omega)))
    have HB27 := Lib.hid (HB26.out.trans (hb7.mono (by omega)))
    have hX7 : w2.heap.size < w7.heap.size := lt_of_block hG
    clear hG o1 o2 o3 hb7
    go_wp2_with fail
    obtain ⟨w8, hw8⟩ : ∃ w8, (w7.alloc (.cells #[.bool (fl r), .int .i64 (slotOf r), .slice xa' (payL r).length xc', .slice ya' (outL r).length yc', .slice za' (hasL r).length zc', .int .i64 (r.steps : Int)] 52)) = w8 := ⟨_, rfl⟩
    rw [hw8]
    have hB8 : Below w2.heap.size w2 w8 := by rw [← hw8]; exact HB27.out.alloc (by omega) _
    have HB8 : Hid (Below w.heap.size w w8) := by rw [← hw8]; exact HB7.out.alloc (by omega) _
    have hpb : ∀ k, k < w7.heap.size → w8.heap[k]? = w7.heap[k]? := by
     intro k hk
     rw [← hw8]
     exact (World.grownBy_alloc _ _ none).block k hk (by simp)
    have A1 := Lib.hid ((ListAt.ofOwn O1.out).below hB8 (Nat.le_refl _))
    have A2 := Lib.hid ((ListAt.ofOwn O2.out).below hB8 (Nat.le_refl _))
    have A3 := Lib.hid ((ListAt.ofOwn O3.out).below hB8 (Nat.le_refl _))
    have B1 := Lib.hid (ListAt.ofOwn (ownsRow_of P1.out (fun k hk => hpb k (P1.out.lt k hk).2)))
    have B2 := Lib.hid (ListAt.ofOwn (ownsRow_of P2.out (fun k hk => hpb k (P2.out.lt k hk).2)))
    have B3 := Lib.hid (ListAt.ofOwn (ownsRow_of P3.out (fun k hk => hpb k (P3.out.lt k hk).2)))
    clear hw8 hB8 hpb q0 q1 q2 q3 q4 q5
    refine (sameRan_any (fl r) (slotOf r) (r.steps : Int) xa xa' ya ya' za za' _ xc xc' _ yc yc' _ zc zc' (payL r) (outL r) (hasL r) w8 A1.out B1.out A2.out B2.out A3.out B3.out ⟨by omega, by omega, by omega⟩).mono ?_
    rintro e w9 ⟨rfl, hb9⟩
    have HB9 := Lib.hid (HB8.out.trans (hb9.mono HB8.out.size))
    clear hb9
    go_wp2_with fail
    go_ret
    exact ⟨rfl, HB9.out⟩
 ·have HM := Lib.hid hm
  obtain ⟨T, v, he⟩ := Er.shape _ (progEr_no hm)
  have HE := Lib.hid he
  clear hm he
  go_enter Tryz.func38, Tryz.ntmps38
  go_wp2_with fail
  refine (run_no a0 pa0 ia0 len0 cap0 pn0 pc0 im0 ic0 ps0 _ (HP.out.below HBX.out (Nat.le_refl _)) HWF.out (HR.out.below HBX.out (Nat.le_refl _)) hl0 HM.out).mono ?_
  rintro e w2 ⟨rfl, hb2⟩
  rw [HE.out]
  have HB2 := Lib.hid (HBX.out.trans (hb2.mono (by simp)))
  have hs2 := HB2.out.size
  clear hb2
  go_wp2_with fail
  have hb3 := (Below.refl w2.heap.size w2).alloc (Nat.le_refl _) (.cells #[.bool false, .int .i64 0, .slice none 0 0, .slice none 0 0, .slice none 0 0, .int .i64 0] 52)
  refine (works14_any _ ((HR.out.below HB2.out (Nat.le_refl _)).below hb3 (Nat.le_refl _))).mono ?_
  rintro e w4 ⟨rfl, hb4⟩
  have HB4 := Lib.hid (HB2.out.trans ((hb3.trans (hb4.mono (by simp))).mono hs2))
  clear hb3 hb4
  go_wp2_with fail
  refine (works14_any _ (HR.out.below HB4.out (Nat.le_refl _))).mono ?_
  rintro e w6 ⟨rfl, hb6⟩
  have HB6 := Lib.hid (HB4.out.trans (hb6.mono HB4.out.size))
  clear hb6
  go_wp2_with fail
  go_ret
  exact ⟨rfl, HB6.out⟩

end LawVmNamed
end Go.Proofs.YtmpeipdeablkdaaGreatDoor
