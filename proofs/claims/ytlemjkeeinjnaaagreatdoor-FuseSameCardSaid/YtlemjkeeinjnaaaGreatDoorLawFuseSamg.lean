/- Lists of numbers that came in, opened. -/
/- 'FuseSame'. -/
import Derived.Test.YtlemjkeeinjnaaaGreatDoorOpen
import Derived.Test.YtlemjkeeinjnaaaGreatDoorVmP
import Derived.Test.YtlemjkeeinjnaaaGreatDoorFrame
import Derived.Test.YtlemjkeeinjnaaaGreatDoorDoor1
import Derived.Test.YtlemjkeeinjnaaaGreatDoorFactFuseSame
import Derived.Test.YtlemjkeeinjnaaaGreatDoorFusQ
import Derived.Test.YtlemjkeeinjnaaaGreatDoorFuX
import Derived.Test.YtlemjkeeinjnaaaGreatDoorVmQ
import Derived.Test.YtlemjkeeinjnaaaGreatDoorMore
import Derived.Deep.Cut
import Derived.Deep.RegionHeld3
namespace Go.Proofs.YtlemjkeeinjnaaaGreatDoor
open Go.ChangeShapes Go.WideShapes Go.ChangeAt Go.RowKit Go.Proofs.YtlemjkeeinjnaaaGreatDoor.Code

theorem cells5 : Tryz.prog.cellsOf 5 = 1 := by kernel_rfl

section
variable {H : Type} {enc : TypeId × Value → H} {w : World} {held : Bool}

theorem open_nums {t e : TypeId} {k : IntKind} {M : Nat} (ht : Tryz.prog.underlying t = some (.slice e)) (he : Tryz.prog.underlying e = some (.int k)) (hc : Tryz.prog.cellsOf e = 1) (hM : ∀ n : Int, (Lit.int k n).wf = true → 0 ≤ n ∧ n < M)
    {fuel : Nat} {a : Option Addr} {len cap : Nat} {d : DataW H} {p : List MemPlace} (h : DataW.trod enc Tryz.prog w 0 (fun _ => true) held fuel t [.slice a len cap] = some (d, p)) :
    ∃ l : List Nat, ListAt w a len (l.map (fun b : Nat => Value.int k (b : Int))) ∧ (∀ b ∈ l, b < M) ∧ (a = none → cap = 0) ∧ len ≤ 9223372036854775807 := by
  rcases Deep.open_slice1 ht hc h with ⟨hcs, hx⟩ | ⟨ad, len', cap', m, n, V, D, Pl, hcs, _, hl, hm, hmm, hx, hel⟩
  · simp only [List.cons.injEq, and_true, Value.slice.injEq] at hcs
    obtain ⟨rfl, rfl, rfl⟩ := hcs
    exact ⟨[], ⟨rfl, fun i v hv => by simp at hv⟩, fun b hb => (by cases hb), fun _ => rfl, by omega⟩
  · simp only [List.cons.injEq, and_true, Value.slice.injEq] at hcs
    obtain ⟨rfl, rfl, rfl⟩ := hcs
    simp only [if_true] at hmm
    subst hmm
    have one : ∀ i, i < len → ∃ b : Nat, b < M ∧ w.cell? (ad.add i) = some (.int k (b : Int)) := by
      intro i hi
      obtain ⟨h1, h2⟩ := hel i (by omega)
      obtain ⟨n0, e0, _, w0⟩ := DataW.trod_int he h2
      simp only [List.cons.injEq, and_true] at e0
      have hn := hM n0 w0
      obtain ⟨b, rfl⟩ : ∃ b : Nat, n0 = (b : Int) := ⟨n0.toNat, by omega⟩
      exact ⟨b, by omega, by rw [h1, e0]⟩
    obtain ⟨f, hf⟩ := Deep.choose_lt one
    refine ⟨(List.range len).map f, ⟨by simp, fun i v hv => ?_⟩, fun b hb => ?_, fun h => (by cases h), by unfold maxLen at hm; omega⟩
    · rw [List.map_map] at hv
      have hi : i < len := by simpa using (List.getElem?_eq_some_iff.1 hv).1
      rw [List.getElem?_map, List.getElem?_range hi] at hv
      simp at hv
      subst hv
      have h0 := (hf 0 (by omega)).2
      have hi2 := (hf i hi).2
      have sp := World.cell?_spot h0
      have e0 : ad.add 0 = ad := by unfold Addr.add; simp
      rw [e0] at sp
      obtain ⟨blk, off, spot⟩ := ad
      simp only at sp
      subst sp
      have ea : (⟨blk, off, none⟩ : Addr).add i = ⟨blk, off + i, none⟩ := by
        unfold Addr.add; split
        · rename_i hz; simp
        · rfl
      rw [ea] at hi2
      exact ⟨blk, off, rfl, World.block_lt_of_cell? w _ hi2, hi2⟩
    · obtain ⟨i, hi, rfl⟩ := List.mem_map.1 hb
      exact (hf i (List.mem_range.1 hi)).1

theorem wf_u8_nat (n : Int) (h : (Lit.int .u8 n).wf = true) : 0 ≤ n ∧ n < (256 : Nat) := by
  simp [Lit.wf, IntKind.min, IntKind.max, IntKind.signed, IntKind.bits] at h
  omega
theorem wf_u64_nat (n : Int) (h : (Lit.int .u64 n).wf = true) : 0 ≤ n ∧ n < (18446744073709551616 : Nat) := by
  have := wf_u64_in h
  unfold B.InU64 at this
  omega

theorem open_bytes {fuel : Nat} {a : Option Addr} {len cap : Nat} {d : DataW H} {p : List MemPlace} (h : DataW.trod enc Tryz.prog w 0 (fun _ => true) held fuel 47 [.slice a len cap] = some (d, p)) :
    ∃ l : List Nat, ListAt w a len (l.map u8V) ∧ B.Bytes l ∧ (a = none → cap = 0) ∧ len ≤ 9223372036854775807 := by
  exact open_nums Tryz.underlying47 Tryz.underlying5 cells5 wf_u8_nat h

theorem open_words {fuel : Nat} {a : Option Addr} {len cap : Nat} {d : DataW H} {p : List MemPlace} (h : DataW.trod enc Tryz.prog w 0 (fun _ => true) held fuel 48 [.slice a len cap] = some (d, p)) :
    ∃ l : List Nat, ListAt w a len (l.map u64V) ∧ B.Words l ∧ (a = none → cap = 0) ∧ len ≤ 9223372036854775807 := by
  exact open_nums Tryz.underlying48 Tryz.underlying32 cells32 wf_u64_nat h
end

theorem open_cap {H : Type} {enc : TypeId × Value → H} {w : World} {held : Bool} {fuel : Nat} {a : Option Addr} {len cap : Nat} {d : DataW H} {p : List MemPlace} (h : DataW.trod enc Tryz.prog w 0 (fun _ => true) held fuel 22 [.slice a len cap] = some (d, p)) : len ≤ cap := by
  rcases Deep.open_slice Tryz.underlying22 h with ⟨hcs, _⟩ | ⟨ad, len', cap', m, n, D, Pl, hcs, _, hl, _⟩
  · simp only [List.cons.injEq, and_true, Value.slice.injEq] at hcs
    obtain ⟨rfl, rfl, rfl⟩ := hcs
    exact Nat.le_refl _
  · simp only [List.cons.injEq, and_true, Value.slice.injEq] at hcs
    obtain ⟨rfl, rfl, rfl⟩ := hcs
    exact hl

end Go.Proofs.YtlemjkeeinjnaaaGreatDoor

namespace Go.Proofs.YtlemjkeeinjnaaaGreatDoor
open Go.ChangeShapes Go.WideShapes Go.ChangeAt Go.RowKit Go.Proofs.YtlemjkeeinjnaaaGreatDoor.Code

namespace LawFuseSame

attribute [local go_sem ↓] Go.wp_at_zero Go.wp_at_succ

theorem seen_same {r r' : B.Out} (hf : r.failed = r'.failed) (h : B.Seen r.st r'.st) : Same r r' := by
  refine ⟨?_, ?_, ?_, ?_, ?_⟩
  · unfold fl; rw [hf]
  · unfold slotOf; rw [hf]
  · unfold payL; rw [hf, h.pay]
  · unfold outL; rw [hf, h.out]
  · unfold hasL; rw [hf, h.has]
set_option maxRecDepth 100000 in
set_option maxHeartbeats 3200000 in
theorem law (a0 : Option Addr) (len0 cap0 : Nat) (ps0 : List B.Ins) (pa1 : Option Addr) (pn1 pc1 : Nat) (pay1 : List Nat) (ia2 : Option Addr) (im2 ic2 : Nat) (inp2 : List Nat) (w : World) (hp0 : ProgAt w a0 len0 ps0) (hwf0 : ∀ y ∈ ps0, y.Wf) (hl0 : len0 * 40 ≤ 140737488351232) (hn0 : a0 = none → cap0 = 0) (hc0 : len0 ≤ cap0) (hy1 : ListAt w pa1 pn1 (pay1.map u8V)) (hb1 : B.Bytes pay1) (hyn1 : pa1 = none → pc1 = 0) (hyl1 : pn1 ≤ 9223372036854775807) (hu2 : ListAt w ia2 im2 (inp2.map u64V)) (hw2 : B.Words inp2) (hun2 : ia2 = none → ic2 = 0) (hul2 : im2 ≤ 9223372036854775807) (hR : Tabs w) :
    Calls Tryz.prog 7 #[.slice a0 len0 cap0, .slice pa1 pn1 pc1, .slice ia2 im2 ic2] w (BoolOut true w) := by
  have _U0 := Lib.hid hn0
  have _U1 := Lib.hid hyn1
  have _U2 := Lib.hid hun2
  have HP := Lib.hid hp0
  have HWF := Lib.hid hwf0
  have HY := Lib.hid hy1
  have HBY := Lib.hid hb1
  have HU := Lib.hid hu2
  have HW := Lib.hid hw2
  have HR := Lib.hid hR
  have hlw : len0 ≤ 3518437208780 := by omega
  clear hp0 hwf0 hn0 hyn1 hun2 hy1 hb1 hu2 hw2 hR hl0
  have _ := hyl1
  have _ := hul2
  by_cases hm : B.MayRun ps0 pn1 im2
  · have HM := Lib.hid hm
    have hlen : len0 ≤ 16384 := by rw [HP.out.len]; exact hm.len
    have hql : (B.fuse ps0).length ≤ len0 := by rw [HP.out.len]; exact B.fuse_len hm.ok
    have hpn : pay1.length = pn1 := by have := HY.out.len; rw [List.length_map] at this; exact this.symm
    have hst : B.StOk pn1 im2 (B.start pay1 im2) := by rw [← hpn]; exact B.start_ok im2 HBY.out
    have hdr := B.fuse_run hm HW.out hst
    obtain ⟨r, hq⟩ : ∃ r, B.run ps0 inp2 0 (B.start pay1 im2) = r := ⟨_, rfl⟩
    obtain ⟨r', hq'⟩ : ∃ r', B.run (B.fuse ps0) inp2 0 (B.start pay1 im2) = r' := ⟨_, rfl⟩
    rw [hq, hq'] at hdr
    obtain ⟨d1, d3⟩ := hdr
    have HSM := Lib.hid (seen_same d1 d3)
    have hrs : r.steps ≤ 16384 := by have := B.steps_le ps0 inp2 0 (B.start pay1 im2); rw [hq] at this; have := HP.out.len; omega
    have HQ := Lib.hid hq
    have HQ' := Lib.hid hq'
    have HMQ := Lib.hid hm.fuse
    clear hm hq hq' d1 d3 hpn hst
    go_enter Tryz.func7, Tryz.ntmps7
    go_wp2_with fail
    refine (run_same (r := r) (Same.refl r) rfl a0 pa1 ia2 len0 cap0 pn1 pc1 im2 ic2 ps0 pay1 inp2 _ HP.out HWF.out HR.out (by omega) HM.out HY.out HU.out HBY.out HW.out HQ.out).mono ?_
    rintro e w2 ⟨xa, xc, ya, yc, za, zc, rfl, o1, o2, o3, ⟨s1, s2, s3⟩, hb2⟩
    have hs2 := hb2.size
    have O1 := Lib.hid o1
    have O2 := Lib.hid o2
    have O3 := Lib.hid o3
    have HB2 := Lib.hid hb2
    clear o1 o2 o3 hb2
    go_wp2_with fail
    have hb3 := (Below.refl w2.heap.size w2).alloc (Nat.le_refl _) (.cells #[.bool (fl r), .int .i64 (slotOf r), .slice xa (payL r).length xc, .slice ya (outL r).length yc, .slice za (hasL r).length zc, .int .i64 (r.steps : Int)] 51)
    have hA3 := heap_alloc_new w2 (.cells #[.bool (fl r), .int .i64 (slotOf r), .slice xa (payL r).length xc, .slice ya (outL r).length yc, .slice za (hasL r).length zc, .int .i64 (r.steps : Int)] 51)
    have hB3 := HB2.out.trans (hb3.mono hs2)
    refine (fuse_yes a0 len0 cap0 hc0 ps0 pn1 im2 _ (HP.out.below hB3 (Nat.le_refl _)) HWF.out (HR.out.below hB3 (Nat.le_refl _)) HM.out).mono ?_
    rintro e w4 ⟨ao, cp, rfl, hown, hb4⟩
    generalize B.fuse ps0 = q at *
    have HA4 := Lib.hid ((hb4.block w2.heap.size (by simp)).trans hA3)
    have HB24 := Lib.hid (hb3.trans (hb4.mono (by simp)))
    have HB4 := Lib.hid (HB2.out.trans (HB24.out.mono hs2))
    have HO := Lib.hid hown
    have hs4 := HB4.out.size
    have hs24 : w2.heap.size < w4.heap.size := lt_of_block HA4.out
    have HQWF : Hid (∀ y ∈ q, y.Wf) := fun y hy => wf_right (HMQ.out.ok.mem y hy)
    clear hb3 hb4 hA3 hB3 hown
    have HP4 : Hid (ProgAt w4 ao q.length q) := HO.out.progAt
    go_upto_region 3 with fail
    go_region_held3 (fun _ => True) (exact trivial) ((refine (works18_any _ (HR.out.below HB4.out.drew (Nat.le_refl _))).mono ?_; rintro e w5 ⟨rfl, hb5⟩; have HB45 := Lib.hid (((Below.refl w4.heap.size w4).drew).trans (hb5.mono (Nat.le_refl _))); clear hb5))
    have HB5 := Lib.hid (HB4.out.trans (HB45.out.mono hs4))
    have HA5 := Lib.hid ((HB45.out.block w2.heap.size (by omega)).trans HA4.out)
    have HB25 := Lib.hid (HB24.out.trans (HB45.out.mono (by omega)))
    have HP5 : Hid (ProgAt w5 ao q.length q) := HP4.out.below HB45.out (Nat.le_refl _)
    have hs5 := HB5.out.size
    have hs25 : w2.heap.size < w5.heap.size := lt_of_block HA5.out
    clear HB45
    go_wp2_with fail
    refine (run_same (r := r) (r' := r') (n := r'.steps) HSM.out rfl ao pa1 ia2 q.length cp pn1 pc1 im2 ic2 q pay1 inp2 _ HP5.out HQWF.out (HR.out.below HB5.out (Nat.le_refl _)) (by omega) HMQ.out (HY.out.below HB5.out (Nat.le_refl _)) (HU.out.below HB5.out (Nat.le_refl _)) HBY.out HW.out HQ'.out).mono ?_
    rintro e w7 ⟨xa', xc', ya', yc', za', zc', rfl, o1, o2, o3, _, hb7⟩
    have hG : w7.heap[w2.heap.size]? = _ := (hb7.block w2.heap.size (by omega)).trans HA5.out
    have q0 : w7.cell? ⟨w2.heap.size, 0, none⟩ = some (.bool (fl r)) := by rw [cell_of_row _ _ _ _ _ _ hG]; rfl
    have q1 : w7.cell? ⟨w2.heap.size, 1, none⟩ = some (.int .i64 (slotOf r)) := by rw [cell_of_row _ _ _ _ _ _ hG]; rfl
    have q2 : w7.cell? ⟨w2.heap.size, 2, none⟩ = some (.slice xa (payL r).length xc) := by rw [cell_of_row _ _ _ _ _ _ hG]; rfl
    have q3 : w7.cell? ⟨w2.heap.size, 3, none⟩ = some (.slice ya (outL r).length yc) := by rw [cell_of_row _ _ _ _ _ _ hG]; rfl
    have q4 : w7.cell? ⟨w2.heap.size, 4, none⟩ = some (.slice za (hasL r).length zc) := by rw [cell_of_row _ _ _ _ _ _ hG]; rfl
    have q5 : w7.cell? ⟨w2.heap.size, 5, none⟩ = some (.int .i64 (r.steps : Int)) := by rw [cell_of_row _ _ _ _ _ _ hG]; rfl
    have hX7 : w2.heap.size < w7.heap.size := lt_of_block hG
    have P1 := Lib.hid o1
    have P2 := Lib.hid o2
    have P3 := Lib.hid o3
    have HB7 := Lib.hid (HB5.out.trans (hb7.mono hs5))
    have HB27 := Lib.hid (HB25.out.trans (hb7.mono (by omega)))
    have g1 : decide (q.length ≤ len0) = true := by simpa using hql
    clear hG o1 o2 o3 hb7
    go_wp2_with fail
    obtain ⟨w8, hw8⟩ : ∃ w8, (w7.alloc (.cells #[.bool (fl r), .int .i64 (slotOf r), .slice xa' (payL r).length xc', .slice ya' (outL r).length yc', .slice za' (hasL r).length zc', .int .i64 (r.steps : Int)] 51)) = w8 := ⟨_, rfl⟩
    rw [hw8]
    have hB8 : Below w2.heap.size w2 w8 := by rw [← hw8]; exact HB27.out.alloc (by omega) _
    have HB8 : Hid (Below w.heap.size w w8) := by rw [← hw8]; exact HB7.out.alloc (by omega) _
    have hpb : ∀ k, w5.heap.size ≤ k ∧ k < w7.heap.size → w8.heap[k]? = w7.heap[k]? := by
      intro k hk
      rw [← hw8]
      exact (World.grownBy_alloc _ _ none).block k hk.2 (by simp)
    have A1 := Lib.hid ((ListAt.ofOwn O1.out).below hB8 (Nat.le_refl _))
    have A2 := Lib.hid ((ListAt.ofOwn O2.out).below hB8 (Nat.le_refl _))
    have A3 := Lib.hid ((ListAt.ofOwn O3.out).below hB8 (Nat.le_refl _))
    have B1 := Lib.hid (ListAt.ofOwn (ownsRow_of P1.out (fun k hk => hpb k (P1.out.lt k hk))))
    have B2 := Lib.hid (ListAt.ofOwn (ownsRow_of P2.out (fun k hk => hpb k (P2.out.lt k hk))))
    have B3 := Lib.hid (ListAt.ofOwn (ownsRow_of P3.out (fun k hk => hpb k (P3.out.lt k hk))))
    clear hw8 hB8 hpb q0 q1 q2 q3 q4 q5 g1
    refine (sameRan_any (fl r) (slotOf r) (r.steps : Int) xa xa' ya ya' za za' _ xc xc' _ yc yc' _ zc zc' (payL r) (outL r) (hasL r) w8 A1.out B1.out A2.out B2.out A3.out B3.out ⟨by omega, by omega, by omega⟩).mono ?_
    rintro e w9 ⟨rfl, hb9⟩
    have HB9 := Lib.hid (HB8.out.trans (hb9.mono HB8.out.size))
    clear hb9
    go_wp2_with fail
    go_ret
    exact ⟨rfl, HB9.out⟩
  · have HM : Hid (¬ B.MayRun ps0 pn1 im2) := hm
    obtain ⟨T, v, hv⟩ := Er.shape _ (progEr_shape hm)
    have HV := Lib.hid hv
    clear hm hv
    go_enter Tryz.func7, Tryz.ntmps7
    go_wp2_with fail
    refine (run_no a0 pa1 ia2 len0 cap0 pn1 pc1 im2 ic2 ps0 _ HP.out HWF.out HR.out (by omega) HM.out).mono ?_
    rintro e w2 ⟨rfl, hb2⟩
    rw [HV.out]
    have HB2 := Lib.hid hb2
    have hs2 := hb2.size
    clear hb2
    go_wp2_with fail
    have hB3 := HB2.out.alloc hs2 (.cells #[.bool false, .int .i64 0, .slice none 0 0, .slice none 0 0, .slice none 0 0, .int .i64 0] 51)
    refine (fuse_no a0 len0 cap0 ps0 pn1 im2 _ (HP.out.below hB3 (Nat.le_refl _)) HWF.out (HR.out.below hB3 (Nat.le_refl _)) (by omega) HM.out).mono ?_
    rintro e w4 ⟨rfl, hb4⟩
    rw [HV.out]
    have HB4 := Lib.hid (hB3.trans (hb4.mono (by simp; omega)))
    have hs4 := HB4.out.size
    clear hB3 hb4
    go_upto_region 3 with fail
    go_region_held3 (fun _ => True) (exact trivial) ((refine (works18_any _ (HR.out.below HB4.out.drew (Nat.le_refl _))).mono ?_; rintro e w5 ⟨rfl, hb5⟩; have HB45 := Lib.hid (((Below.refl w4.heap.size w4).drew).trans (hb5.mono (Nat.le_refl _))); clear hb5))
    have HB5 := Lib.hid (HB4.out.trans (HB45.out.mono hs4))
    go_wp2_with fail
    go_ret
    exact ⟨rfl, HB5.out⟩

set_option maxRecDepth 100000 in
theorem lifted (os : Os) (started : os.Started) (H : Type) (enc : TypeId × Value → H) :
    ReturnsInHanded {} Tryz.checked os 7 .any (fun w args => (Rows.fuseSameSpec.pre enc Tryz.prog Tryz.f7 Rows.fuseSameRow.domain false w args ∧ laidMetH Tryz.prog laid1 w) ∧ sizedMet enc Tryz.prog Tryz.f7 (OpenSpec.ofChange Rows.fuseSameSpec) false w args)
      (Rows.fuseSameSpec.post enc Tryz.prog Tryz.f7 false true false false) := by
  refine returnsInHanded_of_change_and (C := Tryz.checked) (X := fun w _ => laidMetH Tryz.prog laid1 w) (fun _ _ _ hh h => h.of_heap hh) own started (by kernel_rfl) Tryz.func7
    (ChangeSpec.witness_shaped (enc := enc) (C := Tryz.checked) (os := os) (X := fun w _ => laidMetH Tryz.prog laid1 w) false (World.doorLaid Tryz.prog 93 os) #[.slice none 0 0, .slice none 0 0, .slice none 0 0] 8 rfl (World.shaped_of_RefB (by kernel_rfl) (by kernel_rfl)) (by kernel_rfl) (by kernel_rfl) (by kernel_rfl) (door_met1 os _)) ?_
  intro W base args ds gs before hval0 hW hcnd hsz0 hL _
  have hval : ∀ (j : Nat) t v, Tryz.f7.params[j]? = some t → args[j]? = some v → Value.okWide Tryz.prog W .any base t v := hval0
  have hsz : (DataW.weightsEach Tryz.prog (Tryz.f7.params.toList ++ Rows.fuseSameSpec.plain.varTypes Tryz.prog) (ds ++ gs)).all (· ≤ reachBytes) = true := hsz0
  have hW' := hW
  obtain ⟨p, q, hA0, hV, rfl, hfz, hnd⟩ := hW
  have hA : DataW.TrodAll enc Tryz.prog W 0 (fun _ => true) true Tryz.f7.params.toList args.toList ds p := hA0
  rw [Tryz.params7] at hA hval hsz
  have hA1 := hA
  obtain ⟨v0, vs0, d0, ds0, p0, q0, hargs, rfl, rfl, h0, r0⟩ := trodAll_cons hA
  obtain ⟨v1, vs1, d1, ds1, p1, q1, rfl, rfl, rfl, h1, r1⟩ := trodAll_cons r0
  obtain ⟨v2, vs2, d2, ds2, p2, q2, rfl, rfl, rfl, h2, r2⟩ := trodAll_cons r1
  obtain ⟨rfl, rfl, rfl⟩ := trodAll_nil r2
  obtain rfl : args = #[v0, v1, v2] := by cases args; simp_all
  obtain ⟨rfl, rfl⟩ := trodVars_none hV
  obtain ⟨a0, len0, cap0, rfl⟩ := okWide_slice Tryz.underlying22 (hval 0 22 v0 rfl rfl)
  obtain ⟨fuel0, hf0⟩ := h0
  have hn0 := open_nil hf0
  have hc0 := open_cap hf0
  obtain ⟨ps0, hp0, hwf0, hreach0⟩ := open_prog hf0
  have hr0 := hreach0 _ _ 0 hsz rfl rfl
  obtain ⟨pa1, pn1, pc1, rfl⟩ := okWide_slice Tryz.underlying47 (hval 1 47 v1 rfl rfl)
  obtain ⟨fuel1, hf1⟩ := h1
  obtain ⟨pay1, hy1, hb1, hyn1, hyl1⟩ := open_bytes hf1
  obtain ⟨ia2, im2, ic2, rfl⟩ := okWide_slice Tryz.underlying48 (hval 2 48 v2 rfl rfl)
  obtain ⟨fuel2, hf2⟩ := h2
  obtain ⟨inp2, hu2, hw2, hun2, hul2⟩ := open_words hf2
  have lt0 := trodAll_lt _ _ _ _ hA1
  clear hA0 hval0 hsz0
  refine (law a0 len0 cap0 ps0 pa1 pn1 pc1 pay1 ia2 im2 ic2 inp2 W hp0 hwf0 hr0 hn0 hc0 hy1 hb1 hyn1 hyl1 hu2 hw2 hun2 hul2 (tabs_laid1 hL) ).mono fun e W' ⟨he, bel⟩ => ?_
  subst he
  exact ⟨_, rfl, _, _, _, [], _, [], hW', trodAll_mk1 (shut_bool Tryz.underlying4 _), below_trodAll laidOut bel _ _ _ _ (by kernel_rfl) hA1 lt0, rfl, bel.frame _, fun h => by cases h⟩

theorem said : Rows.FuseSameSaid :=
  OpenClaim.holds_of_wide 7 Tryz.f7 rfl rfl rfl rfl rfl rfl rfl ⟨rfl, rfl, rfl, rfl, rfl⟩ rfl rfl rfl rfl rfl found Tryz.func7 joined instanced wrapped
    (fun os started H enc _ => lifted os started H enc)

theorem plain (f : FuncId) (fn : Func) (hf : Tryz.pinned.checked.prog.funcNamed "busbar/busbarlaw18.FuseSame" = some f) (hfn : Tryz.pinned.checked.prog.funcs[f]? = some fn) :
    true = Tryz.pinned.checked.prog.looks [] ∧ ∀ (j : Nat) t, fn.params[j]? = some t → Tryz.pinned.checked.prog.wantsStandIn t = false := by
  obtain rfl : f = 7 := Option.some.inj (found.symm.trans hf) |>.symm
  obtain rfl : fn = Tryz.f7 := (Option.some.inj (Tryz.func7.symm.trans hfn)).symm
  refine ⟨by kernel_rfl, fun j t ht => ?_⟩
  rw [Tryz.params7] at ht
  have hm : t ∈ ([22, 47, 48] : List TypeId) := by simpa using Array.mem_of_getElem? ht
  have hall : (([22, 47, 48] : List TypeId).all fun u => !Tryz.prog.wantsStandIn u) = true := by kernel_rfl
  exact (show Tryz.prog.wantsStandIn t = false by simpa using List.all_eq_true.1 hall t hm)

theorem card : Rows.FuseSameCardSaid :=
  Claim7.holds_tied_plain_at .later [] _ _ _ _ said (fun _ h => by cases h) (by kernel_rfl) (fun _ h => by cases h) fuseSame_row_tie rfl ⟨rfl, rfl⟩ (by kernel_rfl) rfl plain (by kernel_rfl)
#print axioms card

end LawFuseSame
end Go.Proofs.YtlemjkeeinjnaaaGreatDoor
