/- 'VmBytes': what is laid is read again, the first byte the lowest or the highest; bytes that aren't touched stay: the statement holds of every input. No condition beyond the card's own: the listed variables hold what the program's text lays. -/
import Derived.Test.YthafeadfpfibkaaGreatDoorFrame
import Derived.Test.YthafeadfpfibkaaGreatDoorDoor1
import Derived.Test.YthafeadfpfibkaaGreatDoorFactVmBytes
import Derived.Test.YthafeadfpfibkaaGreatDoorVmT
import Derived.Test.YthafeadfpfibkaaGreatDoorOpen2
import Derived.Test.YthafeadfpfibkaaGreatDoorPlainV
import Derived.Test.YthafeadfpfibkaaGreatDoorMore
import Derived.Deep.QuietTactic
import Derived.BigQuiet
namespace Go.Proofs.YthafeadfpfibkaaGreatDoor
open Go.ChangeShapes Go.WideShapes Go.ChangeAt Go.RowKit Go.Proofs.YthafeadfpfibkaaGreatDoor.Code

namespace LawVmBytes

attribute [local go_sem ↓] Go.wp_at_zero Go.wp_at_succ

theorem bytes_facts (big : Bool) {b k v : Nat} {pay : List Nat} (h2 : b + k ≤ pay.length) (h8 : pay.length ≤ 8) (hp : B.Bytes pay) :
    ∃ st o0 o1, B.run (B.bytesProg big b k) [v, 0] 0 (B.start pay 2) = ⟨none, st, 6⟩ ∧ st.out = [o0, o1] ∧ o0 = B.low v (8 * k) ∧ (∀ i, i < k → o0 / 2 ^ (8 * i) % 256 = o1 / 2 ^ (8 * (k - 1 - i)) % 256) ∧
      (∀ i, i < b ∨ b + k ≤ i → st.pay[i]? = pay[i]?) ∧ o0 < 18446744073709551616 ∧ o1 < 18446744073709551616 := by
  obtain ⟨r, hr⟩ := B.bytes_run big (v := v) h2
  have hl : ((pay.drop b).take k).length = k := B.part_len h2
  have hpb : B.Bytes ((pay.drop b).take k) := B.bytes_take (B.bytes_drop hp b) k
  have hn : (B.storeX' big v ((pay.drop b).take k)).length = k := by unfold B.storeX'; cases big <;> simp [B.storeL_length, B.storeB_length, hl] <;> omega
  have hnb : B.Bytes (B.storeX' big v ((pay.drop b).take k)) := by
    unfold B.storeX'
    cases big
    · exact B.storeL_bytes _ _ _ _ hpb
    · exact B.storeB_bytes _ _ _ hpb
  have hlow : B.low v (8 * k) = v % 2 ^ (8 * k) := B.low_le (by omega)
  have hlt := B.load_lt64 hnb (by omega)
  refine ⟨_, _, _, hr, rfl, ?_, ?_, ?_, ?_, ?_⟩
  · rw [hlow]
    cases big
    · have := B.loadL_store (v := v) (l := (pay.drop b).take k) (by omega)
      rw [hl] at this
      simpa [B.storeX'] using this
    · have := B.loadB_store (v := v) (l := (pay.drop b).take k) (by omega)
      rw [hl] at this
      simpa [B.storeX'] using this
  · intro i hi
    generalize B.storeX' big v ((pay.drop b).take k) = new at hn hnb
    cases big
    · have hx : new[i]? = some (new[i]'(by omega)) := List.getElem?_eq_getElem _
      have e1 := B.loadL_byte new i _ hnb hx
      have e2 := B.loadB_byte new i _ hnb hx
      have e3 : new.length - 1 - i = k - 1 - i := by omega
      simp only [e3] at e2
      simp only [Bool.false_eq_true, if_false]
      exact e1.trans e2.symm
    · have hx : new[k - 1 - i]? = some (new[k - 1 - i]'(by omega)) := List.getElem?_eq_getElem _
      have e1 := B.loadL_byte new _ _ hnb hx
      have e2 := B.loadB_byte new _ _ hnb hx
      have e3 : new.length - 1 - (k - 1 - i) = i := by omega
      simp only [e3] at e2
      simp only [if_true]
      exact e2.trans e1.symm
  · intro i hi
    show (B.patch pay b _)[i]? = _
    rw [B.patch_get (by rw [hn]; exact h2), hn, if_neg (by omega)]
  · cases big
    · exact hlt.1
    · exact hlt.2
  · cases big
    · exact hlt.2
    · exact hlt.1

theorem low8 (v k : Nat) (w : World) (hk : 8 * k ≤ 64) (hv : v < 18446744073709551616) {m : Nat} (hm : B.low v (8 * k) = m) : Calls Tryz.prog 22 #[.int .u64 v, .int .i64 (8 * (k : Int))] w (fun e w' => e = .returned (.int .u64 (m : Int)) ∧ w' = w) := by
  have h := low_any v (8 * k) w hk hv
  rw [Int.natCast_mul] at h
  refine h.mono ?_
  rintro e w' ⟨rfl, rfl⟩
  exact ⟨by rw [hm], rfl⟩
theorem right_wf {x : B.Ins} (h : x.right = true) : x.Wf := by
  have hb := B.right_bounds h
  refine ⟨⟨?_, ?_⟩, ⟨?_, ?_⟩, ⟨?_, ?_⟩, ⟨?_, ?_⟩, ⟨?_, ?_⟩⟩ <;> omega

theorem still_skip {P : Program} {ops : Array Oper} {w : World} {Q : Act → Prop} {o : Oper} {rest : List Oper} {a : Act} (hw : Region.wanted o (yielded ops a.tmps) = false) (h : wpStill P ops w Q rest (a.put o.dst undef)) : wpStill P ops w Q (o :: rest) a := by
  unfold wpStill
  rw [if_neg (by simp [hw])]
  exact h

theorem still_past {P : Program} {ops : Array Oper} {w : World} {Q : Act → Prop} {o : Oper} {rest : List Oper} {a : Act} (hw : Region.wanted o (yielded ops a.tmps) = false) (h : ∀ K : Act → Prop, (∀ a, wpStill P ops w Q rest a → K a) → K (a.put o.dst undef)) : wpStill P ops w Q (o :: rest) a :=
  still_skip hw (h _ (fun _ h => h))

theorem still_gen {P : Program} {ops : Array Oper} {w : World} {Q : Act → Prop} {l : List Oper} {a : Act} (h : ∀ Q' : Act → Prop, (∀ a', Q a' → Q' a') → wpStill P ops w Q' l a) : wpStill P ops w Q l a := h Q (fun _ h => h)

theorem and_byte (o n : Nat) (h : o < 18446744073709551616) : bits .and .u64 ((o : Int) / 2 ^ n) 255 = ((o / 2 ^ n % 256 : Nat) : Int) := by
  have h1 : o / 2 ^ n < 18446744073709551616 := Nat.lt_of_le_of_lt (Nat.div_le_self _ _) h
  have h2 := u64_and_nat (o / 2 ^ n) 255 h1 (by omega)
  rw [Nat.and_two_pow_sub_one_eq_mod (o / 2 ^ n) 8] at h2
  rw [Int.natCast_ediv, Int.natCast_pow] at h2
  exact h2
set_option maxRecDepth 100000 in
set_option maxHeartbeats 6400000 in
theorem law_f (pa0 : Option Addr) (pn0 pc0 : Nat) (pay0 : List Nat) (v1 : Nat) (from1 num1 : Int) (w : World) (hy0 : ListAt w pa0 pn0 (pay0.map u8V)) (hb0 : B.Bytes pay0) (hyn0 : pa0 = none → pc0 = 0) (hyl0 : pn0 ≤ 9223372036854775807) (hv1 : v1 < 18446744073709551616) (hf1 : B.In64 from1) (hm1 : B.In64 num1) (hR : Tabs w) (hsz : 1 ≤ pn0 ∧ pn0 ≤ 8) :
    Calls Tryz.prog 6 #[.slice pa0 pn0 pc0, .agg #[.int .u64 (v1 : Int), .int .i64 from1, .int .i64 num1, .bool false]] w (BoolOut true w) := by
  have _U0 := Lib.hid hyn0
  have _U1 := Lib.hid hyl0
  have HY := Lib.hid hy0
  have HBY := Lib.hid hb0
  have HR := Lib.hid hR
  have HV := Lib.hid hv1
  have HBX := Lib.hid ((Below.refl w.heap.size w).alloc (Nat.le_refl _) (.cells #[.int .u64 (v1 : Int), .int .i64 from1, .int .i64 num1, .bool false] 46))
  have HBK := Lib.hid (heap_alloc_new w (.cells #[.int .u64 (v1 : Int), .int .i64 from1, .int .i64 num1, .bool false] 46))
  clear hy0 hb0 hyn0 hR hv1
  obtain ⟨hs1, hs8⟩ := hsz
  have hr1 := pickV_range from1 (pn0 : Int) (by omega)
  obtain ⟨b, hb⟩ : ∃ b : Nat, pickV from1 (pn0 : Int) = (b : Int) := ⟨(pickV from1 (pn0 : Int)).toNat, by omega⟩
  have hp1 := pick_any from1 (pn0 : Int) hf1 (by omega) (by omega)
  rw [hb] at hp1 hr1
  have HPK := Lib.hid hp1
  have hr2 := pickV_range num1 ((pn0 : Int) - (b : Int)) (by omega)
  have hp2 := pick_any num1 ((pn0 : Int) - (b : Int)) hm1 (by omega) (by omega)
  generalize pickV num1 ((pn0 : Int) - (b : Int)) = j at hr2 hp2
  have HPK2 := Lib.hid hp2
  obtain ⟨k, hk⟩ : ∃ k : Nat, 1 + j = (k : Int) := ⟨(1 + j).toNat, by omega⟩
  have hk1 : 1 ≤ k := by omega
  have hbk : b + k ≤ pn0 := by omega
  obtain ⟨j0, j1⟩ := hr2
  clear hb hp1 hp2 hr1 hf1 hm1
  have hln : pn0 = pay0.length := by have := HY.out.len; rwa [List.length_map] at this
  obtain ⟨st, o0, o1, hrun, hout, hlow, hbits, hkeep, hlt0, hlt1⟩ := bytes_facts false (b := b) (k := k) (v := v1) (pay := pay0) (by omega) (by omega) HBY.out
  have HRUN := Lib.hid hrun
  have HOUT := Lib.hid hout
  have HLOW := Lib.hid hlow.symm
  have HBITS := Lib.hid hbits
  have HKEEP := Lib.hid hkeep
  have HL0 := Lib.hid hlt0
  have HL1 := Lib.hid hlt1
  have HMR := Lib.hid (B.bytes_mayRun false (size := pn0) hk1 hbk hs8)
  clear hrun hout hlow hbits hkeep hln hlt0 hlt1
  go_enter Tryz.func6, Tryz.ntmps6
  go_wp2_with fail
  refine (works14_any _ (HR.out.below HBX.out (Nat.le_refl _))).mono ?_
  rintro e w4 ⟨rfl, hb4⟩
  have HB4 := Lib.hid (HBX.out.trans (hb4.mono (by simp)))
  have hG := (hb4.block w.heap.size (by simp)).trans HBK.out
  have x0 : w4.cell? ⟨w.heap.size, 0, none⟩ = some (.int .u64 (v1 : Int)) := (cell_of_row _ _ _ _ _ _ hG).trans rfl
  have x1 : w4.cell? ⟨w.heap.size, 1, none⟩ = some (.int .i64 from1) := (cell_of_row _ _ _ _ _ _ hG).trans rfl
  have x2 : w4.cell? ⟨w.heap.size, 2, none⟩ = some (.int .i64 num1) := (cell_of_row _ _ _ _ _ _ hG).trans rfl
  have x3 : w4.cell? ⟨w.heap.size, 3, none⟩ = some (.bool false) := (cell_of_row _ _ _ _ _ _ hG).trans rfl
  have hlt4 : w.heap.size < w4.heap.size := lt_of_block hG
  have hs4 := HB4.out.size
  have HG4 := Lib.hid hG
  clear hb4 hG
  go_wp2_with fail
  refine (HPK.out _).mono ?_
  rintro e w5 ⟨rfl, rfl⟩
  go_wp2_with fail
  refine (HPK2.out _).mono ?_
  rintro e w5 ⟨rfl, rfl⟩
  have hlt5 : w.heap.size < w5.heap.size + 1 := by omega
  have hlt6 : w.heap.size < w5.heap.size + 1 + 1 := by omega
  have hne4 : ¬ (w.heap.size = w5.heap.size) := by omega
  have hne5 : ¬ (w.heap.size = w5.heap.size + 1) := by omega
  have hne6 : ¬ (w.heap.size = w5.heap.size + 1 + 1) := by omega
  go_wp2_with fail
  obtain ⟨w6, hw6⟩ : ∃ w6, (((w5.alloc (.cells #[.int .i64 11, .int .i64 0, .int .i64 (b : Int), .int .i64 (k : Int), .int .u64 0] 38)).alloc (.cells #[.int .i64 9, .int .i64 1, .int .i64 (b : Int), .int .i64 (k : Int), .int .u64 0] 38)).alloc (.cells #[.int .i64 10, .int .i64 2, .int .i64 (b : Int), .int .i64 (k : Int), .int .u64 0] 38)) = w6 := ⟨_, rfl⟩
  have hb6 : Below w5.heap.size w5 w6 := by rw [← hw6]; exact (((Below.refl _ _).alloc (Nat.le_refl _) _).alloc (by simp) _).alloc (by simp; omega) _
  have hsz6 : w6.heap.size = w5.heap.size + 1 + 1 + 1 := by rw [← hw6]; simp
  rw [hw6]
  clear hw6
  have hp := progAt_new (B.bytesProg false b k) #[.int .i64 15, .int .i64 0, .int .i64 0, .int .i64 0, .int .u64 0, .int .i64 11, .int .i64 0, .int .i64 (b : Int), .int .i64 (k : Int), .int .u64 0, .int .i64 9, .int .i64 1, .int .i64 (b : Int), .int .i64 (k : Int), .int .u64 0, .int .i64 10, .int .i64 2, .int .i64 (b : Int), .int .i64 (k : Int), .int .u64 0, .int .i64 16, .int .i64 1, .int .i64 0, .int .i64 0, .int .u64 0, .int .i64 16, .int .i64 2, .int .i64 1, .int .i64 0, .int .u64 0] 6 38 w6 rfl rfl
  rw [hsz6] at hp
  have hu := listAt_new (([v1, 0] : List Nat).map u64V) #[.int .u64 (v1 : Int), .int .u64 0] 2 (w5.heap.size + 1 + 1 + 1 + 1) 36 (w6.alloc (.cells #[.int .i64 15, .int .i64 0, .int .i64 0, .int .i64 0, .int .u64 0, .int .i64 11, .int .i64 0, .int .i64 (b : Int), .int .i64 (k : Int), .int .u64 0, .int .i64 9, .int .i64 1, .int .i64 (b : Int), .int .i64 (k : Int), .int .u64 0, .int .i64 10, .int .i64 2, .int .i64 (b : Int), .int .i64 (k : Int), .int .u64 0, .int .i64 16, .int .i64 1, .int .i64 0, .int .i64 0, .int .u64 0, .int .i64 16, .int .i64 2, .int .i64 1, .int .i64 0, .int .u64 0] 38)) rfl rfl (by simp [hsz6])
  have hb7 : Below (w6.heap.size + 1) (w6.alloc (.cells #[.int .i64 15, .int .i64 0, .int .i64 0, .int .i64 0, .int .u64 0, .int .i64 11, .int .i64 0, .int .i64 (b : Int), .int .i64 (k : Int), .int .u64 0, .int .i64 9, .int .i64 1, .int .i64 (b : Int), .int .i64 (k : Int), .int .u64 0, .int .i64 10, .int .i64 2, .int .i64 (b : Int), .int .i64 (k : Int), .int .u64 0, .int .i64 16, .int .i64 1, .int .i64 0, .int .i64 0, .int .u64 0, .int .i64 16, .int .i64 2, .int .i64 1, .int .i64 0, .int .u64 0] 38)) ((w6.alloc (.cells #[.int .i64 15, .int .i64 0, .int .i64 0, .int .i64 0, .int .u64 0, .int .i64 11, .int .i64 0, .int .i64 (b : Int), .int .i64 (k : Int), .int .u64 0, .int .i64 9, .int .i64 1, .int .i64 (b : Int), .int .i64 (k : Int), .int .u64 0, .int .i64 10, .int .i64 2, .int .i64 (b : Int), .int .i64 (k : Int), .int .u64 0, .int .i64 16, .int .i64 1, .int .i64 0, .int .i64 0, .int .u64 0, .int .i64 16, .int .i64 2, .int .i64 1, .int .i64 0, .int .u64 0] 38)).alloc (.cells #[.int .u64 (v1 : Int), .int .u64 0] 36)) := (Below.refl _ _).alloc (by simp) _
  have hb57 : Below w5.heap.size w5 ((w6.alloc (.cells #[.int .i64 15, .int .i64 0, .int .i64 0, .int .i64 0, .int .u64 0, .int .i64 11, .int .i64 0, .int .i64 (b : Int), .int .i64 (k : Int), .int .u64 0, .int .i64 9, .int .i64 1, .int .i64 (b : Int), .int .i64 (k : Int), .int .u64 0, .int .i64 10, .int .i64 2, .int .i64 (b : Int), .int .i64 (k : Int), .int .u64 0, .int .i64 16, .int .i64 1, .int .i64 0, .int .i64 0, .int .u64 0, .int .i64 16, .int .i64 2, .int .i64 1, .int .i64 0, .int .u64 0] 38)).alloc (.cells #[.int .u64 (v1 : Int), .int .u64 0] 36)) := (hb6.alloc (by omega) _).trans (hb7.mono (by omega))
  have hp7 := hp.below hb7 (by simp)
  obtain ⟨w7, hw7⟩ : ∃ w7, (w6.alloc (.cells #[.int .i64 15, .int .i64 0, .int .i64 0, .int .i64 0, .int .u64 0, .int .i64 11, .int .i64 0, .int .i64 (b : Int), .int .i64 (k : Int), .int .u64 0, .int .i64 9, .int .i64 1, .int .i64 (b : Int), .int .i64 (k : Int), .int .u64 0, .int .i64 10, .int .i64 2, .int .i64 (b : Int), .int .i64 (k : Int), .int .u64 0, .int .i64 16, .int .i64 1, .int .i64 0, .int .i64 0, .int .u64 0, .int .i64 16, .int .i64 2, .int .i64 1, .int .i64 0, .int .u64 0] 38)).alloc (.cells #[.int .u64 (v1 : Int), .int .u64 0] 36) = w7 := ⟨_, rfl⟩
  rw [hw7] at hu hb57 hp7
  rw [hw7]
  have HU := Lib.hid hu
  have HP := Lib.hid hp7
  have HB57 := Lib.hid hb57
  have HB7 := Lib.hid (HB4.out.trans (hb57.mono hs4))
  have hs57 := hb57.size
  clear hp hu hb7 hb57 hp7 hw7 hb6 hsz6 x0 x1 x2 x3 hlt5 hlt6 hne4 hne5 hne6
  refine (run_go_any _ pa0 _ 6 _ pn0 pc0 2 _ (B.bytesProg false b k) pay0 [v1, 0] _ HP.out (fun y hy => right_wf (HMR.out.ok.mem y hy)) (HR.out.below HB7.out (Nat.le_refl _)) (by omega) HMR.out (HY.out.below HB7.out (Nat.le_refl _)) HU.out HBY.out (fun x hx => by simp at hx; rcases hx with rfl | rfl; exact HV.out; omega) HRUN.out rfl).mono ?_
  rintro e w8 ⟨pa, pc, oa, oc, ha, hc, rfl, hok, l1, l2, l3, hb8⟩
  simp only at l1 l2
  rw [HOUT.out] at l2
  obtain ⟨ob, oo, rfl, hol, hoc⟩ := l2.at_ 0 (u64V o0) rfl
  obtain ⟨ob', oo', hoe, _, hoc'⟩ := l2.at_ 1 (u64V o1) rfl
  simp only [Option.some.injEq, Addr.mk.injEq, and_true] at hoe
  obtain ⟨rfl, rfl⟩ := hoe
  have HB58 := Lib.hid (HB57.out.trans (hb8.mono hs57))
  have hb89 : Below w8.heap.size w8 (w8.alloc (.cells #[.bool false, .int .i64 0, .slice pa pn0 pc, .slice (some ⟨ob, oo, none⟩) 2 oc, .slice ha 2 hc, .int .i64 6] 29)) := (Below.refl _ _).alloc (Nat.le_refl _) _
  have hnew := heap_alloc_new w8 (.cells #[.bool false, .int .i64 0, .slice pa pn0 pc, .slice (some ⟨ob, oo, none⟩) 2 oc, .slice ha 2 hc, .int .i64 6] 29)
  have hs58 := HB58.out.size
  go_wp2_with fail
  obtain ⟨w9, hw9⟩ : ∃ w9, w8.alloc (.cells #[.bool false, .int .i64 0, .slice pa pn0 pc, .slice (some ⟨ob, oo, none⟩) 2 oc, .slice ha 2 hc, .int .i64 6] 29) = w9 := ⟨_, rfl⟩
  rw [hw9] at hb89 hnew
  rw [hw9]
  have HB59 := Lib.hid (HB58.out.trans (hb89.mono hs58))
  have HB9 := Lib.hid (HB4.out.trans (HB59.out.mono hs4))
  have L1 := Lib.hid (l1.below hb89 (Nat.le_refl _))
  have HC := Lib.hid (show w9.cell? ⟨ob, oo, none⟩ = some (.int .u64 (o0 : Int)) from (hb89.cell (p := ⟨ob, oo, none⟩) hol).trans hoc)
  have HC' := Lib.hid (show w9.cell? ⟨ob, oo + 1, none⟩ = some (.int .u64 (o1 : Int)) from (hb89.cell (p := ⟨ob, oo + 1, none⟩) hol).trans hoc')
  have HN9 := Lib.hid hnew
  have hob : ob < w9.heap.size := Nat.lt_of_lt_of_le hol hb89.size
  have hX9 : w8.heap.size < w9.heap.size := lt_of_block hnew
  have hb8 : w.heap.size < w9.heap.size := by have := HB59.out.size; omega
  have y0 : w9.cell? ⟨w.heap.size, 0, none⟩ = some (.int .u64 (v1 : Int)) := (HB59.out.cell (p := ⟨w.heap.size, 0, none⟩) hlt4).trans ((cell_of_row _ _ _ _ _ _ HG4.out).trans rfl)
  clear hok l1 l2 l3 hb89 hnew hw9 hoc hoc' hol hs57 hs58
  generalize w8.heap.size = X at *
  have r2 : w9.cell? ⟨X, 2, none⟩ = some (.slice pa pn0 pc) := (cell_of_row _ _ _ _ _ _ HN9.out).trans rfl
  have r3 : w9.cell? ⟨X, 3, none⟩ = some (.slice (some ⟨ob, oo, none⟩) 2 oc) := (cell_of_row _ _ _ _ _ _ HN9.out).trans rfl
  have HRF : Hid (Below w9.heap.size w9 w9.drew) := (Below.refl w9.heap.size w9).drew
  have c0 := HC.out
  have c1 := HC'.out
  have h8k : 8 * k ≤ 64 := by omega
  have ww : IntKind.i64.wrap (8 * (k : Int)) = 8 * (k : Int) := IntWalk.i64_in _ (by omega)
  refine wp_region_still_lit (by kernel_rfl) (by kernel_rfl) ?_
  refine still_gen (fun QQ hQQ => ?_)
  repeat (first | still_step | still_call (low8 v1 k _ h8k HV.out HLOW.out))
  refine wpStill_nil (hQQ _ ?_)
  clear hQQ QQ
  clear y0 r2 r3 c0 c1 ww
  go_wp2_with fail
  go_loopw [13] (fun i wr => ∃ m : Nat, m ≤ pn0 ∧ i = .int .i64 m ∧ Below w9.heap.size w9 wr) (fun i _ => pn0 - (intOf i).toNat)
  case atStart => exact ⟨0, by omega, rfl, HRF.out⟩
  case round =>
    obtain ⟨m, hm, rfl, hbr⟩ := hrel
    have HBR := Lib.hid hbr
    clear hbr
    by_cases hlt : m < pn0
    · have m0 : (0 : Int) ≤ (m : Int) := by omega
      have m1 : (m : Int) < (pn0 : Int) := by omega
      have r2 : wr.cell? ⟨X, 2, none⟩ = some (.slice pa pn0 pc) := (HBR.out.cell (p := ⟨X, 2, none⟩) hX9).trans ((cell_of_row _ _ _ _ _ _ HN9.out).trans rfl)
      have ww : IntKind.i64.wrap ((b : Int) + (k : Int)) = (b : Int) + (k : Int) := IntWalk.i64_in _ (by omega)
      have WW := Lib.hid ww
      clear ww
      by_cases hin : b ≤ m ∧ m < b + k
      · have d1 : decide (m < b) = false := by simp; omega
        have d2 : decide (b + k ≤ m) = false := by simp; omega
        have d2' : decide ((b : Int) + (k : Int) ≤ (m : Int)) = false := by simp; omega
        have HIN := Lib.hid hin
        clear hin
        go_wp2_with fail
        have ww := WW.out
        go_quiet (fail)
        clear ww
        go_wp2_with fail
        go_roundw
        case rel => exact ⟨m + 1, by omega, by go_num, belowN HBR.out _⟩
        case measure => simp [intOf]; omega
      · have hln : pn0 = pay0.length := by have := HY.out.len; rwa [List.length_map] at this
        have hx : pay0[m]? = some (pay0[m]'(by omega)) := List.getElem?_eq_getElem _
        have hx2 := (HKEEP.out m (by omega)).trans hx
        generalize pay0[m]'(by omega) = q at hx hx2
        obtain ⟨b1, f1, rfl, hl1, hc1⟩ := HY.out.at_ m (u8V q) (by rw [List.getElem?_map, hx]; rfl)
        obtain ⟨b2, f2, rfl, hl2, hc2⟩ := L1.out.at_ m (u8V q) (by rw [List.getElem?_map, hx2]; rfl)
        replace hc1 := (HBR.out.cell (p := ⟨b1, f1 + m, none⟩) (Nat.lt_of_lt_of_le hl1 HB9.out.size)).trans ((HB9.out.cell (p := ⟨b1, f1 + m, none⟩) hl1).trans hc1)
        replace hc2 := (HBR.out.cell (p := ⟨b2, f2 + m, none⟩) hl2).trans hc2
        unfold u8V at hc1 hc2
        clear hx hx2 hln hl1 hl2
        by_cases hlo : m < b
        · have d1 : decide (m < b) = true := by simp; omega
          have HIN := Lib.hid hin
          have HLO := Lib.hid hlo
          clear hin hlo
          go_wp2_with fail
          have ww := WW.out
          go_quiet (fail)
          clear ww
          go_wp2_with fail
          go_roundw
          case rel => exact ⟨m + 1, by omega, by go_num, belowN HBR.out _⟩
          case measure => simp [intOf]; omega
        · have d1 : decide (m < b) = false := by simp; omega
          have d2 : decide (b + k ≤ m) = true := by simp; omega
          have d2' : decide ((b : Int) + (k : Int) ≤ (m : Int)) = true := by simp; omega
          have HIN := Lib.hid hin
          have HLO := Lib.hid hlo
          clear hin hlo
          go_wp2_with fail
          have ww := WW.out
          go_quiet (fail)
          clear ww
          go_wp2_with fail
          go_roundw
          case rel => exact ⟨m + 1, by omega, by go_num, belowN HBR.out _⟩
          case measure => simp [intOf]; omega
    · obtain rfl : m = pn0 := by omega
      obtain ⟨wo, hwo⟩ : ∃ wo : World, wo = wr := ⟨_, rfl⟩
      subst hwo
      go_wp2_with fail
      go_loopw [14] (fun i wr => ∃ t : Nat, t ≤ k ∧ i = .int .i64 t ∧ Below w9.heap.size w9 wr) (fun i _ => k - (intOf i).toNat)
      case atStart => exact ⟨0, by omega, rfl, HBR.out⟩
      case round =>
        obtain ⟨t, ht, rfl, hbq⟩ := hrel
        have HBQ := Lib.hid hbq
        clear hbq
        by_cases htk : t < k
        · have r3 : wr.cell? ⟨X, 3, none⟩ = some (.slice (some ⟨ob, oo, none⟩) 2 oc) := (HBQ.out.cell (p := ⟨X, 3, none⟩) hX9).trans ((cell_of_row _ _ _ _ _ _ HN9.out).trans rfl)
          have c0 : wr.cell? ⟨ob, oo, none⟩ = some (.int .u64 (o0 : Int)) := (HBQ.out.cell (p := ⟨ob, oo, none⟩) hob).trans HC.out
          have c1 : wr.cell? ⟨ob, oo + 1, none⟩ = some (.int .u64 (o1 : Int)) := (HBQ.out.cell (p := ⟨ob, oo + 1, none⟩) hob).trans HC'.out
          obtain ⟨u, hu⟩ : ∃ u : Nat, (k : Int) - 1 - (t : Int) = (u : Int) := ⟨k - 1 - t, by omega⟩
          have hbt := HBITS.out t htk
          have hu' : k - 1 - t = u := by omega
          rw [hu'] at hbt
          have e1 := and_byte o0 (8 * t) HL0.out
          have e2 := and_byte o1 (8 * u) HL1.out
          rw [← hbt] at e2
          have h64 : 8 * (t : Int) < 64 := by omega
          have h64' : 8 * (u : Int) < 64 := by omega
          have hk0 : 0 ≤ (k : Int) - 1 := by omega
          have w1 : IntKind.i64.wrap (8 * (t : Int)) = 8 * (t : Int) := IntWalk.i64_in _ (by omega)
          have w2 : IntKind.i64.wrap (8 * (u : Int)) = 8 * (u : Int) := IntWalk.i64_in _ (by omega)
          have w3 : IntKind.i64.wrap ((k : Int) - 1) = (k : Int) - 1 := IntWalk.i64_in _ (by omega)
          have w6' : (8 * (t : Int)).toNat = 8 * t := by omega
          have w7' : (8 * (u : Int)).toNat = 8 * u := by omega
          have w4' : IntKind.i64.wrap ((u : Int)) = (u : Int) := IntWalk.i64_in _ (by omega)
          have w5' : IntKind.i64.wrap ((k : Int) - 1 - (t : Int)) = (k : Int) - 1 - (t : Int) := IntWalk.i64_in _ (by omega)
          clear hu' hbt
          generalize o0 / 2 ^ (8 * t) % 256 = q at e1 e2
          go_wp2_with fail
          go_quiet (fail)
          go_wp2_with fail
          go_roundw
          case rel => exact ⟨t + 1, by omega, by go_num, belowN HBQ.out _⟩
          case measure => simp [intOf]; omega
        · obtain rfl : t = k := by omega
          go_wp2_with fail
          go_ret
          exact ⟨rfl, HB9.out.trans (HBQ.out.mono HB9.out.size)⟩
set_option maxRecDepth 100000 in
set_option maxHeartbeats 6400000 in
theorem law_t (pa0 : Option Addr) (pn0 pc0 : Nat) (pay0 : List Nat) (v1 : Nat) (from1 num1 : Int) (w : World) (hy0 : ListAt w pa0 pn0 (pay0.map u8V)) (hb0 : B.Bytes pay0) (hyn0 : pa0 = none → pc0 = 0) (hyl0 : pn0 ≤ 9223372036854775807) (hv1 : v1 < 18446744073709551616) (hf1 : B.In64 from1) (hm1 : B.In64 num1) (hR : Tabs w) (hsz : 1 ≤ pn0 ∧ pn0 ≤ 8) :
    Calls Tryz.prog 6 #[.slice pa0 pn0 pc0, .agg #[.int .u64 (v1 : Int), .int .i64 from1, .int .i64 num1, .bool true]] w (BoolOut true w) := by
  have _U0 := Lib.hid hyn0
  have _U1 := Lib.hid hyl0
  have HY := Lib.hid hy0
  have HBY := Lib.hid hb0
  have HR := Lib.hid hR
  have HV := Lib.hid hv1
  have HBX := Lib.hid ((Below.refl w.heap.size w).alloc (Nat.le_refl _) (.cells #[.int .u64 (v1 : Int), .int .i64 from1, .int .i64 num1, .bool true] 46))
  have HBK := Lib.hid (heap_alloc_new w (.cells #[.int .u64 (v1 : Int), .int .i64 from1, .int .i64 num1, .bool true] 46))
  clear hy0 hb0 hyn0 hR hv1
  obtain ⟨hs1, hs8⟩ := hsz
  have hr1 := pickV_range from1 (pn0 : Int) (by omega)
  obtain ⟨b, hb⟩ : ∃ b : Nat, pickV from1 (pn0 : Int) = (b : Int) := ⟨(pickV from1 (pn0 : Int)).toNat, by omega⟩
  have hp1 := pick_any from1 (pn0 : Int) hf1 (by omega) (by omega)
  rw [hb] at hp1 hr1
  have HPK := Lib.hid hp1
  have hr2 := pickV_range num1 ((pn0 : Int) - (b : Int)) (by omega)
  have hp2 := pick_any num1 ((pn0 : Int) - (b : Int)) hm1 (by omega) (by omega)
  generalize pickV num1 ((pn0 : Int) - (b : Int)) = j at hr2 hp2
  have HPK2 := Lib.hid hp2
  obtain ⟨k, hk⟩ : ∃ k : Nat, 1 + j = (k : Int) := ⟨(1 + j).toNat, by omega⟩
  have hk1 : 1 ≤ k := by omega
  have hbk : b + k ≤ pn0 := by omega
  obtain ⟨j0, j1⟩ := hr2
  clear hb hp1 hp2 hr1 hf1 hm1
  have hln : pn0 = pay0.length := by have := HY.out.len; rwa [List.length_map] at this
  obtain ⟨st, o0, o1, hrun, hout, hlow, hbits, hkeep, hlt0, hlt1⟩ := bytes_facts true (b := b) (k := k) (v := v1) (pay := pay0) (by omega) (by omega) HBY.out
  have HRUN := Lib.hid hrun
  have HOUT := Lib.hid hout
  have HLOW := Lib.hid hlow.symm
  have HBITS := Lib.hid hbits
  have HKEEP := Lib.hid hkeep
  have HL0 := Lib.hid hlt0
  have HL1 := Lib.hid hlt1
  have HMR := Lib.hid (B.bytes_mayRun true (size := pn0) hk1 hbk hs8)
  clear hrun hout hlow hbits hkeep hln hlt0 hlt1
  go_enter Tryz.func6, Tryz.ntmps6
  go_wp2_with fail
  refine (works14_any _ (HR.out.below HBX.out (Nat.le_refl _))).mono ?_
  rintro e w4 ⟨rfl, hb4⟩
  have HB4 := Lib.hid (HBX.out.trans (hb4.mono (by simp)))
  have hG := (hb4.block w.heap.size (by simp)).trans HBK.out
  have x0 : w4.cell? ⟨w.heap.size, 0, none⟩ = some (.int .u64 (v1 : Int)) := (cell_of_row _ _ _ _ _ _ hG).trans rfl
  have x1 : w4.cell? ⟨w.heap.size, 1, none⟩ = some (.int .i64 from1) := (cell_of_row _ _ _ _ _ _ hG).trans rfl
  have x2 : w4.cell? ⟨w.heap.size, 2, none⟩ = some (.int .i64 num1) := (cell_of_row _ _ _ _ _ _ hG).trans rfl
  have x3 : w4.cell? ⟨w.heap.size, 3, none⟩ = some (.bool true) := (cell_of_row _ _ _ _ _ _ hG).trans rfl
  have hlt4 : w.heap.size < w4.heap.size := lt_of_block hG
  have hs4 := HB4.out.size
  have HG4 := Lib.hid hG
  clear hb4 hG
  go_wp2_with fail
  refine (HPK.out _).mono ?_
  rintro e w5 ⟨rfl, rfl⟩
  go_wp2_with fail
  refine (HPK2.out _).mono ?_
  rintro e w5 ⟨rfl, rfl⟩
  have hlt5 : w.heap.size < w5.heap.size + 1 := by omega
  have hlt6 : w.heap.size < w5.heap.size + 1 + 1 := by omega
  have hne4 : ¬ (w.heap.size = w5.heap.size) := by omega
  have hne5 : ¬ (w.heap.size = w5.heap.size + 1) := by omega
  have hne6 : ¬ (w.heap.size = w5.heap.size + 1 + 1) := by omega
  go_wp2_with fail
  obtain ⟨w6, hw6⟩ : ∃ w6, (((w5.alloc (.cells #[.int .i64 12, .int .i64 0, .int .i64 (b : Int), .int .i64 (k : Int), .int .u64 0] 38)).alloc (.cells #[.int .i64 10, .int .i64 1, .int .i64 (b : Int), .int .i64 (k : Int), .int .u64 0] 38)).alloc (.cells #[.int .i64 9, .int .i64 2, .int .i64 (b : Int), .int .i64 (k : Int), .int .u64 0] 38)) = w6 := ⟨_, rfl⟩
  have hb6 : Below w5.heap.size w5 w6 := by rw [← hw6]; exact (((Below.refl _ _).alloc (Nat.le_refl _) _).alloc (by simp) _).alloc (by simp; omega) _
  have hsz6 : w6.heap.size = w5.heap.size + 1 + 1 + 1 := by rw [← hw6]; simp
  rw [hw6]
  clear hw6
  have hp := progAt_new (B.bytesProg true b k) #[.int .i64 15, .int .i64 0, .int .i64 0, .int .i64 0, .int .u64 0, .int .i64 12, .int .i64 0, .int .i64 (b : Int), .int .i64 (k : Int), .int .u64 0, .int .i64 10, .int .i64 1, .int .i64 (b : Int), .int .i64 (k : Int), .int .u64 0, .int .i64 9, .int .i64 2, .int .i64 (b : Int), .int .i64 (k : Int), .int .u64 0, .int .i64 16, .int .i64 1, .int .i64 0, .int .i64 0, .int .u64 0, .int .i64 16, .int .i64 2, .int .i64 1, .int .i64 0, .int .u64 0] 6 38 w6 rfl rfl
  rw [hsz6] at hp
  have hu := listAt_new (([v1, 0] : List Nat).map u64V) #[.int .u64 (v1 : Int), .int .u64 0] 2 (w5.heap.size + 1 + 1 + 1 + 1) 36 (w6.alloc (.cells #[.int .i64 15, .int .i64 0, .int .i64 0, .int .i64 0, .int .u64 0, .int .i64 12, .int .i64 0, .int .i64 (b : Int), .int .i64 (k : Int), .int .u64 0, .int .i64 10, .int .i64 1, .int .i64 (b : Int), .int .i64 (k : Int), .int .u64 0, .int .i64 9, .int .i64 2, .int .i64 (b : Int), .int .i64 (k : Int), .int .u64 0, .int .i64 16, .int .i64 1, .int .i64 0, .int .i64 0, .int .u64 0, .int .i64 16, .int .i64 2, .int .i64 1, .int .i64 0, .int .u64 0] 38)) rfl rfl (by simp [hsz6])
  have hb7 : Below (w6.heap.size + 1) (w6.alloc (.cells #[.int .i64 15, .int .i64 0, .int .i64 0, .int .i64 0, .int .u64 0, .int .i64 12, .int .i64 0, .int .i64 (b : Int), .int .i64 (k : Int), .int .u64 0, .int .i64 10, .int .i64 1, .int .i64 (b : Int), .int .i64 (k : Int), .int .u64 0, .int .i64 9, .int .i64 2, .int .i64 (b : Int), .int .i64 (k : Int), .int .u64 0, .int .i64 16, .int .i64 1, .int .i64 0, .int .i64 0, .int .u64 0, .int .i64 16, .int .i64 2, .int .i64 1, .int .i64 0, .int .u64 0] 38)) ((w6.alloc (.cells #[.int .i64 15, .int .i64 0, .int .i64 0, .int .i64 0, .int .u64 0, .int .i64 12, .int .i64 0, .int .i64 (b : Int), .int .i64 (k : Int), .int .u64 0, .int .i64 10, .int .i64 1, .int .i64 (b : Int), .int .i64 (k : Int), .int .u64 0, .int .i64 9, .int .i64 2, .int .i64 (b : Int), .int .i64 (k : Int), .int .u64 0, .int .i64 16, .int .i64 1, .int .i64 0, .int .i64 0, .int .u64 0, .int .i64 16, .int .i64 2, .int .i64 1, .int .i64 0, .int .u64 0] 38)).alloc (.cells #[.int .u64 (v1 : Int), .int .u64 0] 36)) := (Below.refl _ _).alloc (by simp) _
  have hb57 : Below w5.heap.size w5 ((w6.alloc (.cells #[.int .i64 15, .int .i64 0, .int .i64 0, .int .i64 0, .int .u64 0, .int .i64 12, .int .i64 0, .int .i64 (b : Int), .int .i64 (k : Int), .int .u64 0, .int .i64 10, .int .i64 1, .int .i64 (b : Int), .int .i64 (k : Int), .int .u64 0, .int .i64 9, .int .i64 2, .int .i64 (b : Int), .int .i64 (k : Int), .int .u64 0, .int .i64 16, .int .i64 1, .int .i64 0, .int .i64 0, .int .u64 0, .int .i64 16, .int .i64 2, .int .i64 1, .int .i64 0, .int .u64 0] 38)).alloc (.cells #[.int .u64 (v1 : Int), .int .u64 0] 36)) := (hb6.alloc (by omega) _).trans (hb7.mono (by omega))
  have hp7 := hp.below hb7 (by simp)
  obtain ⟨w7, hw7⟩ : ∃ w7, (w6.alloc (.cells #[.int .i64 15, .int .i64 0, .int .i64 0, .int .i64 0, .int .u64 0, .int .i64 12, .int .i64 0, .int .i64 (b : Int), .int .i64 (k : Int), .int .u64 0, .int .i64 10, .int .i64 1, .int .i64 (b : Int), .int .i64 (k : Int), .int .u64 0, .int .i64 9, .int .i64 2, .int .i64 (b : Int), .int .i64 (k : Int), .int .u64 0, .int .i64 16, .int .i64 1, .int .i64 0, .int .i64 0, .int .u64 0, .int .i64 16, .int .i64 2, .int .i64 1, .int .i64 0, .int .u64 0] 38)).alloc (.cells #[.int .u64 (v1 : Int), .int .u64 0] 36) = w7 := ⟨_, rfl⟩
  rw [hw7] at hu hb57 hp7
  rw [hw7]
  have HU := Lib.hid hu
  have HP := Lib.hid hp7
  have HB57 := Lib.hid hb57
  have HB7 := Lib.hid (HB4.out.trans (hb57.mono hs4))
  have hs57 := hb57.size
  clear hp hu hb7 hb57 hp7 hw7 hb6 hsz6 x0 x1 x2 x3 hlt5 hlt6 hne4 hne5 hne6
  refine (run_go_any _ pa0 _ 6 _ pn0 pc0 2 _ (B.bytesProg true b k) pay0 [v1, 0] _ HP.out (fun y hy => right_wf (HMR.out.ok.mem y hy)) (HR.out.below HB7.out (Nat.le_refl _)) (by omega) HMR.out (HY.out.below HB7.out (Nat.le_refl _)) HU.out HBY.out (fun x hx => by simp at hx; rcases hx with rfl | rfl; exact HV.out; omega) HRUN.out rfl).mono ?_
  rintro e w8 ⟨pa, pc, oa, oc, ha, hc, rfl, hok, l1, l2, l3, hb8⟩
  simp only at l1 l2
  rw [HOUT.out] at l2
  obtain ⟨ob, oo, rfl, hol, hoc⟩ := l2.at_ 0 (u64V o0) rfl
  obtain ⟨ob', oo', hoe, _, hoc'⟩ := l2.at_ 1 (u64V o1) rfl
  simp only [Option.some.injEq, Addr.mk.injEq, and_true] at hoe
  obtain ⟨rfl, rfl⟩ := hoe
  have HB58 := Lib.hid (HB57.out.trans (hb8.mono hs57))
  have hb89 : Below w8.heap.size w8 (w8.alloc (.cells #[.bool false, .int .i64 0, .slice pa pn0 pc, .slice (some ⟨ob, oo, none⟩) 2 oc, .slice ha 2 hc, .int .i64 6] 29)) := (Below.refl _ _).alloc (Nat.le_refl _) _
  have hnew := heap_alloc_new w8 (.cells #[.bool false, .int .i64 0, .slice pa pn0 pc, .slice (some ⟨ob, oo, none⟩) 2 oc, .slice ha 2 hc, .int .i64 6] 29)
  have hs58 := HB58.out.size
  go_wp2_with fail
  obtain ⟨w9, hw9⟩ : ∃ w9, w8.alloc (.cells #[.bool false, .int .i64 0, .slice pa pn0 pc, .slice (some ⟨ob, oo, none⟩) 2 oc, .slice ha 2 hc, .int .i64 6] 29) = w9 := ⟨_, rfl⟩
  rw [hw9] at hb89 hnew
  rw [hw9]
  have HB59 := Lib.hid (HB58.out.trans (hb89.mono hs58))
  have HB9 := Lib.hid (HB4.out.trans (HB59.out.mono hs4))
  have L1 := Lib.hid (l1.below hb89 (Nat.le_refl _))
  have HC := Lib.hid (show w9.cell? ⟨ob, oo, none⟩ = some (.int .u64 (o0 : Int)) from (hb89.cell (p := ⟨ob, oo, none⟩) hol).trans hoc)
  have HC' := Lib.hid (show w9.cell? ⟨ob, oo + 1, none⟩ = some (.int .u64 (o1 : Int)) from (hb89.cell (p := ⟨ob, oo + 1, none⟩) hol).trans hoc')
  have HN9 := Lib.hid hnew
  have hob : ob < w9.heap.size := Nat.lt_of_lt_of_le hol hb89.size
  have hX9 : w8.heap.size < w9.heap.size := lt_of_block hnew
  have hb8 : w.heap.size < w9.heap.size := by have := HB59.out.size; omega
  have y0 : w9.cell? ⟨w.heap.size, 0, none⟩ = some (.int .u64 (v1 : Int)) := (HB59.out.cell (p := ⟨w.heap.size, 0, none⟩) hlt4).trans ((cell_of_row _ _ _ _ _ _ HG4.out).trans rfl)
  clear hok l1 l2 l3 hb89 hnew hw9 hoc hoc' hol hs57 hs58
  generalize w8.heap.size = X at *
  have r2 : w9.cell? ⟨X, 2, none⟩ = some (.slice pa pn0 pc) := (cell_of_row _ _ _ _ _ _ HN9.out).trans rfl
  have r3 : w9.cell? ⟨X, 3, none⟩ = some (.slice (some ⟨ob, oo, none⟩) 2 oc) := (cell_of_row _ _ _ _ _ _ HN9.out).trans rfl
  have HRF : Hid (Below w9.heap.size w9 w9.drew) := (Below.refl w9.heap.size w9).drew
  have c0 := HC.out
  have c1 := HC'.out
  have h8k : 8 * k ≤ 64 := by omega
  have ww : IntKind.i64.wrap (8 * (k : Int)) = 8 * (k : Int) := IntWalk.i64_in _ (by omega)
  refine wp_region_still_lit (by kernel_rfl) (by kernel_rfl) ?_
  refine still_gen (fun QQ hQQ => ?_)
  repeat (first | still_step | still_call (low8 v1 k _ h8k HV.out HLOW.out))
  refine wpStill_nil (hQQ _ ?_)
  clear hQQ QQ
  clear y0 r2 r3 c0 c1 ww
  go_wp2_with fail
  go_loopw [13] (fun i wr => ∃ m : Nat, m ≤ pn0 ∧ i = .int .i64 m ∧ Below w9.heap.size w9 wr) (fun i _ => pn0 - (intOf i).toNat)
  case atStart => exact ⟨0, by omega, rfl, HRF.out⟩
  case round =>
    obtain ⟨m, hm, rfl, hbr⟩ := hrel
    have HBR := Lib.hid hbr
    clear hbr
    by_cases hlt : m < pn0
    · have m0 : (0 : Int) ≤ (m : Int) := by omega
      have m1 : (m : Int) < (pn0 : Int) := by omega
      have r2 : wr.cell? ⟨X, 2, none⟩ = some (.slice pa pn0 pc) := (HBR.out.cell (p := ⟨X, 2, none⟩) hX9).trans ((cell_of_row _ _ _ _ _ _ HN9.out).trans rfl)
      have ww : IntKind.i64.wrap ((b : Int) + (k : Int)) = (b : Int) + (k : Int) := IntWalk.i64_in _ (by omega)
      have WW := Lib.hid ww
      clear ww
      by_cases hin : b ≤ m ∧ m < b + k
      · have d1 : decide (m < b) = false := by simp; omega
        have d2 : decide (b + k ≤ m) = false := by simp; omega
        have d2' : decide ((b : Int) + (k : Int) ≤ (m : Int)) = false := by simp; omega
        have HIN := Lib.hid hin
        clear hin
        go_wp2_with fail
        have ww := WW.out
        go_quiet (fail)
        clear ww
        go_wp2_with fail
        go_roundw
        case rel => exact ⟨m + 1, by omega, by go_num, belowN HBR.out _⟩
        case measure => simp [intOf]; omega
      · have hln : pn0 = pay0.length := by have := HY.out.len; rwa [List.length_map] at this
        have hx : pay0[m]? = some (pay0[m]'(by omega)) := List.getElem?_eq_getElem _
        have hx2 := (HKEEP.out m (by omega)).trans hx
        generalize pay0[m]'(by omega) = q at hx hx2
        obtain ⟨b1, f1, rfl, hl1, hc1⟩ := HY.out.at_ m (u8V q) (by rw [List.getElem?_map, hx]; rfl)
        obtain ⟨b2, f2, rfl, hl2, hc2⟩ := L1.out.at_ m (u8V q) (by rw [List.getElem?_map, hx2]; rfl)
        replace hc1 := (HBR.out.cell (p := ⟨b1, f1 + m, none⟩) (Nat.lt_of_lt_of_le hl1 HB9.out.size)).trans ((HB9.out.cell (p := ⟨b1, f1 + m, none⟩) hl1).trans hc1)
        replace hc2 := (HBR.out.cell (p := ⟨b2, f2 + m, none⟩) hl2).trans hc2
        unfold u8V at hc1 hc2
        clear hx hx2 hln hl1 hl2
        by_cases hlo : m < b
        · have d1 : decide (m < b) = true := by simp; omega
          have HIN := Lib.hid hin
          have HLO := Lib.hid hlo
          clear hin hlo
          go_wp2_with fail
          have ww := WW.out
          go_quiet (fail)
          clear ww
          go_wp2_with fail
          go_roundw
          case rel => exact ⟨m + 1, by omega, by go_num, belowN HBR.out _⟩
          case measure => simp [intOf]; omega
        · have d1 : decide (m < b) = false := by simp; omega
          have d2 : decide (b + k ≤ m) = true := by simp; omega
          have d2' : decide ((b : Int) + (k : Int) ≤ (m : Int)) = true := by simp; omega
          have HIN := Lib.hid hin
          have HLO := Lib.hid hlo
          clear hin hlo
          go_wp2_with fail
          have ww := WW.out
          go_quiet (fail)
          clear ww
          go_wp2_with fail
          go_roundw
          case rel => exact ⟨m + 1, by omega, by go_num, belowN HBR.out _⟩
          case measure => simp [intOf]; omega
    · obtain rfl : m = pn0 := by omega
      obtain ⟨wo, hwo⟩ : ∃ wo : World, wo = wr := ⟨_, rfl⟩
      subst hwo
      go_wp2_with fail
      go_loopw [14] (fun i wr => ∃ t : Nat, t ≤ k ∧ i = .int .i64 t ∧ Below w9.heap.size w9 wr) (fun i _ => k - (intOf i).toNat)
      case atStart => exact ⟨0, by omega, rfl, HBR.out⟩
      case round =>
        obtain ⟨t, ht, rfl, hbq⟩ := hrel
        have HBQ := Lib.hid hbq
        clear hbq
        by_cases htk : t < k
        · have r3 : wr.cell? ⟨X, 3, none⟩ = some (.slice (some ⟨ob, oo, none⟩) 2 oc) := (HBQ.out.cell (p := ⟨X, 3, none⟩) hX9).trans ((cell_of_row _ _ _ _ _ _ HN9.out).trans rfl)
          have c0 : wr.cell? ⟨ob, oo, none⟩ = some (.int .u64 (o0 : Int)) := (HBQ.out.cell (p := ⟨ob, oo, none⟩) hob).trans HC.out
          have c1 : wr.cell? ⟨ob, oo + 1, none⟩ = some (.int .u64 (o1 : Int)) := (HBQ.out.cell (p := ⟨ob, oo + 1, none⟩) hob).trans HC'.out
          obtain ⟨u, hu⟩ : ∃ u : Nat, (k : Int) - 1 - (t : Int) = (u : Int) := ⟨k - 1 - t, by omega⟩
          have hbt := HBITS.out t htk
          have hu' : k - 1 - t = u := by omega
          rw [hu'] at hbt
          have e1 := and_byte o0 (8 * t) HL0.out
          have e2 := and_byte o1 (8 * u) HL1.out
          rw [← hbt] at e2
          have h64 : 8 * (t : Int) < 64 := by omega
          have h64' : 8 * (u : Int) < 64 := by omega
          have hk0 : 0 ≤ (k : Int) - 1 := by omega
          have w1 : IntKind.i64.wrap (8 * (t : Int)) = 8 * (t : Int) := IntWalk.i64_in _ (by omega)
          have w2 : IntKind.i64.wrap (8 * (u : Int)) = 8 * (u : Int) := IntWalk.i64_in _ (by omega)
          have w3 : IntKind.i64.wrap ((k : Int) - 1) = (k : Int) - 1 := IntWalk.i64_in _ (by omega)
          have w6' : (8 * (t : Int)).toNat = 8 * t := by omega
          have w7' : (8 * (u : Int)).toNat = 8 * u := by omega
          have w4' : IntKind.i64.wrap ((u : Int)) = (u : Int) := IntWalk.i64_in _ (by omega)
          have w5' : IntKind.i64.wrap ((k : Int) - 1 - (t : Int)) = (k : Int) - 1 - (t : Int) := IntWalk.i64_in _ (by omega)
          clear hu' hbt
          generalize o0 / 2 ^ (8 * t) % 256 = q at e1 e2
          go_wp2_with fail
          go_quiet (fail)
          go_wp2_with fail
          go_roundw
          case rel => exact ⟨t + 1, by omega, by go_num, belowN HBQ.out _⟩
          case measure => simp [intOf]; omega
        · obtain rfl : t = k := by omega
          go_wp2_with fail
          go_ret
          exact ⟨rfl, HB9.out.trans (HBQ.out.mono HB9.out.size)⟩
set_option maxRecDepth 100000 in
set_option maxHeartbeats 3200000 in
theorem law (pa0 : Option Addr) (pn0 pc0 : Nat) (pay0 : List Nat) (v1 : Nat) (from1 num1 : Int) (big1 : Bool) (w : World) (hy0 : ListAt w pa0 pn0 (pay0.map u8V)) (hb0 : B.Bytes pay0) (hyn0 : pa0 = none → pc0 = 0) (hyl0 : pn0 ≤ 9223372036854775807) (hv1 : v1 < 18446744073709551616) (hf1 : B.In64 from1) (hm1 : B.In64 num1) (hR : Tabs w) :
    Calls Tryz.prog 6 #[.slice pa0 pn0 pc0, .agg #[.int .u64 (v1 : Int), .int .i64 from1, .int .i64 num1, .bool big1]] w (BoolOut true w) := by
  by_cases hsz : 1 ≤ pn0 ∧ pn0 ≤ 8
  · cases big1 with
    | false => exact law_f pa0 pn0 pc0 pay0 v1 from1 num1 w hy0 hb0 hyn0 hyl0 hv1 hf1 hm1 hR hsz
    | true => exact law_t pa0 pn0 pc0 pay0 v1 from1 num1 w hy0 hb0 hyn0 hyl0 hv1 hf1 hm1 hR hsz
  · have _U0 := Lib.hid hyn0
    have _U1 := Lib.hid hyl0
    have _U2 := Lib.hid hy0
    have _U3 := Lib.hid hb0
    have HR := Lib.hid hR
    have _U4 := Lib.hid hv1
    have HBX := Lib.hid ((Below.refl w.heap.size w).alloc (Nat.le_refl _) (.cells #[.int .u64 (v1 : Int), .int .i64 from1, .int .i64 num1, .bool big1] 46))
    clear hy0 hb0 hyn0 hR hv1
    have hsz' : pn0 < 1 ∨ 8 < pn0 := by omega
    have q : (decide ((pn0 : Int) < 1) || decide (8 < (pn0 : Int))) = true := by simp; omega
    clear hf1 hm1 hsz q
    rcases hsz' with hsz' | hsz'
    all_goals
      go_enter Tryz.func6, Tryz.ntmps6
      go_wp2_with fail
      refine (works14_any _ (HR.out.below HBX.out (Nat.le_refl _))).mono ?_
      rintro e w4 ⟨rfl, hb4⟩
      have HB4 := Lib.hid (HBX.out.trans (hb4.mono (by simp)))
      clear hb4
      go_wp2_with fail
      refine (works14_any _ (HR.out.below HB4.out (Nat.le_refl _))).mono ?_
      rintro e w6 ⟨rfl, hb6⟩
      have HB6 := Lib.hid (HB4.out.trans (hb6.mono HB4.out.size))
      clear hb6
      go_wp2_with fail
      go_ret
      exact ⟨rfl, HB6.out⟩

set_option maxRecDepth 100000 in
theorem lifted (os : Os) (started : os.Started) (H : Type) (enc : TypeId × Value → H) :
    ReturnsInHanded {} Tryz.checked os 6 .any (fun w args => (Rows.vmBytesSpec.pre enc Tryz.prog Tryz.f6 Rows.vmBytesRow.domain false w args ∧ laidMetH Tryz.prog laid1 w) ∧ sizedMet enc Tryz.prog Tryz.f6 (OpenSpec.ofChange Rows.vmBytesSpec) false w args)
      (Rows.vmBytesSpec.post enc Tryz.prog Tryz.f6 false true false false) := by
  refine returnsInHanded_of_change_and (C := Tryz.checked) (X := fun w _ => laidMetH Tryz.prog laid1 w) (fun _ _ _ hh h => h.of_heap hh) own started (by kernel_rfl) Tryz.func6
    (ChangeSpec.witness_shaped (enc := enc) (C := Tryz.checked) (os := os) (X := fun w _ => laidMetH Tryz.prog laid1 w) false (World.doorLaid Tryz.prog 93 os) #[.slice none 0 0, .agg #[.int .u64 0, .int .i64 0, .int .i64 0, .bool false]] 8 rfl (World.shaped_of_RefB (by kernel_rfl) (by kernel_rfl)) (by kernel_rfl) (by kernel_rfl) (by kernel_rfl) (door_met1 os _)) ?_
  intro W base args ds gs before hval0 hW hcnd hsz0 hL _
  have hval : ∀ (j : Nat) t v, Tryz.f6.params[j]? = some t → args[j]? = some v → Value.okWide Tryz.prog W .any base t v := hval0
  have hsz : (DataW.weightsEach Tryz.prog (Tryz.f6.params.toList ++ Rows.vmBytesSpec.plain.varTypes Tryz.prog) (ds ++ gs)).all (· ≤ reachBytes) = true := hsz0
  have hW' := hW
  obtain ⟨p, q, hA0, hV, rfl, hfz, hnd⟩ := hW
  have hA : DataW.TrodAll enc Tryz.prog W 0 (fun _ => true) true Tryz.f6.params.toList args.toList ds p := hA0
  rw [Tryz.params6] at hA hval hsz
  have hA1 := hA
  obtain ⟨v0, vs0, d0, ds0, p0, q0, hargs, rfl, rfl, h0, r0⟩ := trodAll_cons hA
  obtain ⟨v1, vs1, d1, ds1, p1, q1, rfl, rfl, rfl, h1, r1⟩ := trodAll_cons r0
  obtain ⟨rfl, rfl, rfl⟩ := trodAll_nil r1
  obtain rfl : args = #[v0, v1] := by cases args; simp_all
  obtain ⟨rfl, rfl⟩ := trodVars_none hV
  obtain ⟨pa0, pn0, pc0, rfl⟩ := okWide_slice Tryz.underlying23 (hval 0 23 v0 rfl rfl)
  obtain ⟨fuel0, hf0⟩ := h0
  obtain ⟨pay0, hy0, hb0, hyn0, hyl0⟩ := open_bytes hf0
  obtain ⟨b1v, b1f, b1n, b1b, rfl, hv1, hf1, hm1⟩ := open_place (hval 1 46 v1 rfl rfl) h1
  have lt0 := trodAll_lt _ _ _ _ hA1
  clear hA0 hval0 hsz0
  refine (law pa0 pn0 pc0 pay0 b1v b1f b1n b1b W hy0 hb0 hyn0 hyl0 hv1 hf1 hm1 (tabs_laid1 hL) ).mono fun e W' ⟨he, bel⟩ => ?_
  subst he
  exact ⟨_, rfl, _, _, _, [], _, [], hW', trodAll_mk1 (shut_bool Tryz.underlying4 _), below_trodAll laidOut bel _ _ _ _ (by kernel_rfl) hA1 lt0, rfl, bel.frame _, fun h => by cases h⟩

theorem said : Rows.VmBytesSaid :=
  OpenClaim.holds_of_wide 6 Tryz.f6 rfl rfl rfl rfl rfl rfl rfl ⟨rfl, rfl, rfl, rfl, rfl⟩ rfl rfl rfl rfl rfl found Tryz.func6 joined instanced wrapped
    (fun os started H enc _ => lifted os started H enc)

theorem plain (f : FuncId) (fn : Func) (hf : Tryz.pinned.checked.prog.funcNamed "busbar/busbarlaw14.VmBytes" = some f) (hfn : Tryz.pinned.checked.prog.funcs[f]? = some fn) :
    true = Tryz.pinned.checked.prog.looks [] ∧ ∀ (j : Nat) t, fn.params[j]? = some t → Tryz.pinned.checked.prog.wantsStandIn t = false := by
  obtain rfl : f = 6 := Option.some.inj (found.symm.trans hf) |>.symm
  obtain rfl : fn = Tryz.f6 := (Option.some.inj (Tryz.func6.symm.trans hfn)).symm
  refine ⟨by kernel_rfl, fun j t ht => ?_⟩
  rw [Tryz.params6] at ht
  have hm : t ∈ ([23, 46] : List TypeId) := by simpa using Array.mem_of_getElem? ht
  have hall : (([23, 46] : List TypeId).all fun u => !Tryz.prog.wantsStandIn u) = true := by kernel_rfl
  exact (show Tryz.prog.wantsStandIn t = false by simpa using List.all_eq_true.1 hall t hm)

theorem card : Rows.VmBytesCardSaid :=
  Claim7.holds_tied_plain_at .later [] _ _ _ _ said (fun _ h => by cases h) (by kernel_rfl) (fun _ h => by cases h) vmBytes_row_tie rfl ⟨rfl, rfl⟩ (by kernel_rfl) rfl plain (by kernel_rfl)
#print axioms card

end LawVmBytes
end Go.Proofs.YthafeadfpfibkaaGreatDoor
