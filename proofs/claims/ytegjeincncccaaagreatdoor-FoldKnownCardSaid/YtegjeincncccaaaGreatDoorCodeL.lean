/- Package code: Print answers a line, or that there is no such instruction. -/
import Derived.Test.YtegjeincncccaaaGreatDoorCodeK
namespace Go.Proofs.YtegjeincncccaaaGreatDoor
open Go.RowKit

namespace Code

attribute [local go_sem ↓] Go.wp_at_zero Go.wp_at_succ

theorem text_call {w : World} {fk : FK} {v0 v1 v2 v3 v4 : Value} (h : FieldAt w fk v0 v1 v2 v3 v4) : ∃ f caps, FnVal v3 f caps ∧
    ∀ (N : Nat) (w2 : World) (x : B.Ins) (args : Array Value), Below N w w2 → w.heap.size ≤ N → x.Wf → Tabs w2 → args = #[valI x] ++ caps → Calls Tryz.prog f args w2 (SomeText 80 w2) := by
 cases fk with
 | small k lo hi =>
  obtain ⟨hk, b4, b5, b6, b7, hc, rfl, rfl, rfl, rfl, rfl⟩ := h
  refine ⟨_, _, en_small4 _ _, fun N w2 x args hb hN hx ht he => ?_⟩
  obtain rfl : args = #[valI x, P0 b7, P0 b4] := by simpa using he
  have hc2 := hc.below hb hN
  obtain ⟨s, hs, h7⟩ := hc2.c7
  exact text_small k hk b7 b4 s x hx hs w2 ht hc2.c4 h7
 | number =>
  obtain ⟨rfl, rfl, rfl, rfl, rfl⟩ := h
  refine ⟨_, _, en_number4, fun N w2 x args hb hN hx ht he => ?_⟩
  obtain rfl : args = #[valI x] := by simpa using he
  exact text_number x hx.imm w2 ht
 | sign =>
  obtain ⟨rfl, rfl, rfl, rfl, rfl⟩ := h
  refine ⟨_, _, en_sign2, fun N w2 x args hb hN hx ht he => ?_⟩
  obtain rfl : args = #[valI x] := by simpa using he
  exact text_sign x w2
 | skip =>
  obtain ⟨b4, b5, b6, b7, hc, rfl, rfl, rfl, rfl, rfl⟩ := h
  refine ⟨_, _, en_small4 _ _, fun N w2 x args hb hN hx ht he => ?_⟩
  obtain rfl : args = #[valI x, P0 b7, P0 b4] := by simpa using he
  have hc2 := hc.below hb hN
  obtain ⟨s, hs, h7⟩ := hc2.c7
  exact text_small 2 (by omega) b7 b4 s x hx hs w2 ht hc2.c4 h7
 | bytes =>
  obtain ⟨b4, b5, b6, b7, hc, rfl, rfl, rfl, rfl, rfl⟩ := h
  refine ⟨_, _, en_small4 _ _, fun N w2 x args hb hN hx ht he => ?_⟩
  obtain rfl : args = #[valI x, P0 b7, P0 b4] := by simpa using he
  have hc2 := hc.below hb hN
  obtain ⟨s, hs, h7⟩ := hc2.c7
  exact text_small 2 (by omega) b7 b4 s x hx hs w2 ht hc2.c4 h7

/-- the operations' names -/
def namesL : List UInt8 := [104, 97, 108, 116, 32, 99, 111, 110, 115, 116, 32, 109, 111, 118, 101, 32, 97, 110, 100, 32, 111, 114, 32, 120, 111, 114, 32, 115, 104, 108, 32, 115, 104, 114, 32, 109, 97, 115, 107, 32, 108, 111, 97, 100, 32, 108, 111, 97, 100, 98, 105] ++ [103, 32, 115, 116, 111, 114, 101, 32, 115, 116, 111, 114, 101, 98, 105, 103, 32, 98, 108, 101, 110, 100, 32, 115, 105, 103, 110, 32, 105, 110, 32, 111, 117, 116, 32, 102, 105, 116, 115, 32, 115, 107, 105, 112, 32, 115, 107, 105, 112, 110, 101]

theorem names_len : (Lib.fields namesL).length = 20 := by decide +kernel
theorem names_short : ∀ l ∈ Lib.fields namesL, l.length ≤ 10 := by decide +kernel
theorem names_ascii : ∀ b ∈ namesL, b.toNat < 128 := by decide +kernel

/-- the words of the names, in a row of their own -/
def WordsOut (w : World) (e : Ending) (w' : World) : Prop :=
 ∃ C : Array Value, (∀ j, j < 20 → ∃ s : ByteArray, s.size ≤ 10 ∧ C[j]? = some (.string s)) ∧ e = .returned (.slice (some ⟨w.heap.size, 0, none⟩) 20 20) ∧ w' = w.alloc (.cells C 9)

theorem fields_any (s : ByteArray) (hs : s.data.toList = namesL) (w : World) (ht : Tabs w) : Calls Tryz.prog 188 #[.string s] w (WordsOut w) := by
 have hsz : s.size = namesL.length := by rw [← hs]; rfl
 have h102 : namesL.length ≤ 200 := by decide
 refine (Tryz.strings_Fields s w (by omega) (fun j b hb => names_ascii b (by rw [← hs]; exact List.mem_of_getElem? hb)) ht.spc).mono ?_
 rintro e w' ⟨rfl, rfl⟩
 rw [hs]
 refine ⟨((Lib.fields namesL).map fun l => Value.string ⟨l.toArray⟩).toArray, fun j hj => ?_, ?_, rfl⟩
 ·have hj' : j < (Lib.fields namesL).length := by rw [names_len]; exact hj
  refine ⟨⟨((Lib.fields namesL)[j]).toArray⟩, ?_, ?_⟩
  ·exact names_short _ (List.getElem_mem hj')
  ·simp [List.getElem?_eq_getElem hj']
 ·rw [names_len]

theorem MapIs.below {N : Nat} {w w' : World} {b : Nat} {l : List (Int × Value)} (h : MapIs w b l) (hb : Below N w w') (hN : b < N) : MapIs w' b l := by
 obtain ⟨es, clock, h1, h2⟩ := h
 exact ⟨es, clock, (hb.block b hN).trans h1, h2⟩
theorem MapIs.lt {w : World} {b : Nat} {l : List (Int × Value)} (h : MapIs w b l) : b < w.heap.size := by
 obtain ⟨es, clock, h1, h2⟩ := h
 exact lt_of_block h1

/-- the number of an error, as an error -/
def errno (n : Int) : Value := .iface 127 (.int .i64 n)

/-- a line is answered, or the error -/
def PrintOut (x : B.Ins) (w : World) (e : Ending) (w' : World) : Prop :=
 (∃ s : ByteArray, e = .returned (.tuple #[.string s, if x.right = true then .nilIface else errno 20])) ∧ Below w.heap.size w w'

set_option maxRecDepth 100000 in
set_option maxHeartbeats 3200000 in
theorem print_any (x : B.Ins) (w : World) (hx : x.Wf) (ht : Tabs w) : Calls Tryz.prog 142 #[valI x] w (PrintOut x w) := by
 have HX := Lib.hid hx
 have HT := Lib.hid ht
 clear hx ht
 unfold valI
 go_enter Tryz.func142, Tryz.ntmps142
 go_wp2_with fail
 refine (made_any _).mono ?_
 rintro e w1 ⟨T, b, rfl, hb0, hm, hTb, hb1⟩
 have hr := res_cell hb1 (by simp)
 have hs1 := hb1.size
 have hsX : w.heap.size < w1.heap.size := by simp at hs1; omega
 have HW1 := Lib.hid (((Below.refl w.heap.size w).alloc (Nat.le_refl _) _).trans (hb1.mono (by simp)))
 have HM := Lib.hid hm
 have HTB := Lib.hid hTb
 clear hm hTb hb0 hb1
 go_wp2_with fail
 refine (right_any x T b _ HX.out HM.out HTB.out HM.out.lt).mono ?_
 rintro e w2 ⟨rfl, hb2⟩
 have hr2 : ∀ j, w2.cell? ⟨w.heap.size, j, none⟩ = (#[.int .i64 x.op, .int .i64 x.a, .int .i64 x.b, .int .i64 x.n, .int .u64 x.imm] : Array Value)[j]? := fun j => (hb2.cell (p := ⟨w.heap.size, j, none⟩) hsX).trans (hr j)
 have hs2 := hb2.size
 have HB2 := Lib.hid hb2
 clear hb2
 by_cases hright : x.right = true
 ·have HO : Hid (B.isOp x.op = true) := by
    show B.isOp x.op = true
    have := (B.right_bounds hright).1
    unfold B.isOp; simp; omega
  have HRI := Lib.hid hright
  go_wp2_with fail
  refine (of_any x.op T b _ (HM.out.below HB2.out HM.out.lt) (HTB.out.below HB2.out (Nat.le_refl _)) HO.out).mono ?_
  rintro e w3 ⟨ao, n, cap, rfl, hfs, hb3⟩
  have hs3 := hb3.size
  have HB3 := Lib.hid hb3
  have HFS := Lib.hid hfs
  have hr3 : ∀ j, w3.cell? ⟨w.heap.size, j, none⟩ = (#[.int .i64 x.op, .int .i64 x.a, .int .i64 x.b, .int .i64 x.n, .int .u64 x.imm] : Array Value)[j]? := fun j => (hb3.cell (p := ⟨w.heap.size, j, none⟩) (Nat.lt_of_lt_of_le hsX hs2)).trans (hr2 j)
  clear hb3 hfs hr2 hr
  have hx0 : w3.cell? ⟨w.heap.size, 0, none⟩ = some (.int .i64 x.op) := (hr3 0).trans rfl
  have hop := (B.right_bounds HRI.out).1
  have hop0 : 0 ≤ x.op := hop.1
  have hop20 : x.op < 20 := by omega
  clear hop
  go_wp2_with fail
  refine wp_region_held_drew (S := fun w' => w'.cell? ⟨w.heap.size, 0, none⟩ = some (.int .i64 x.op)) (by kernel_rfl) hx0 (fun hS1 => ?_)
  refine wpAnyH_take (i := 1) (v := .pointer (some ⟨w.heap.size, 0, none⟩)) rfl (by kernel_rfl) (by kernel_rfl) (by kernel_rfl) (fun _ _ _ h => h) (Or.inl ⟨by rfl, fun w' _ => by go_simp⟩) hS1 ?_
  simp only [Act.put, List.setIfInBounds_toArray]
  refine wpAnyH_take (i := 2) (v := .int .i64 x.op) rfl (by kernel_rfl) (by kernel_rfl) (by kernel_rfl) (fun _ _ _ h => h) (Or.inl ⟨by rfl, fun w' hw' => by go_simp⟩) hS1 ?_
  simp only [Act.put]
  refine wpAnyH_ready (rs := [0]) (by kernel_rfl) (by simp) ?_
  refine AllReadyH.cons rfl (fun K hK => ?_) AllReadyH.nil
  go_simp
  refine (fields_any _ ?hs _ ?ht).mono ?_
  case hs => rfl
  case ht => exact (((HT.out.below HW1.out (Nat.le_refl _)).below (HB2.out.trans (HB3.out.mono hs2)) (Nat.le_refl _)).drew)
  rintro e w4 ⟨C, hC, rfl, rfl⟩
  refine hK.out _ _ ((World.cell?_alloc_lt w3.drew _ ⟨w.heap.size, 0, none⟩ (World.block_lt_of_cell? _ _ hS1)).trans hS1) (fun hS2 => ?_)
  clear hK K
  obtain ⟨s0, hs0, hC0⟩ := hC x.op.toNat (by omega)
  refine wpAnyH_take (i := 3) (v := .pointer (some ⟨w3.heap.size, x.op.toNat, none⟩)) rfl (by kernel_rfl) (by kernel_rfl) (by kernel_rfl) (fun _ _ _ h => h) (Or.inl ⟨by rfl, fun w' hw' => by go_simp⟩) hS2 ?_
  simp only [Act.put, List.setIfInBounds_toArray]
  refine wpAnyH_ready (rs := [4]) (by kernel_rfl) (by simp) ?_
  refine AllReadyH.cons rfl (fun K hK => ?_) AllReadyH.nil
  go_simp
  refine hK.out _ _ hS2 (fun hS3 => ?_)
  clear hK K
  refine wpAnyH_take (i := 5) (v := .string s0) rfl (by kernel_rfl) (by kernel_rfl) (by kernel_rfl) (fun _ _ _ h => h) (Or.inl ⟨by rfl, fun w' _ => by rfl⟩) hS3 ?_
  refine wpAnyH_done (by kernel_rfl) ?_ _
  clear hS1 hS2 hS3 hC hC0 hx0
  have hn := HFS.out.len
  have hn4 := fieldsOf_len x.op
  have HN := Lib.hid hn
  have hn' : n ≤ 4 := by omega
  clear hn hn4
  have hsX3 : w.heap.size < w3.heap.size := by omega
  go_wp2_with fail
  go_loopw [30, 7] (fun i s wr => ∃ (k : Nat) (t : ByteArray), i = .int .i64 k ∧ k ≤ n ∧ s = .string t ∧ t.size ≤ 100 * k + 100 ∧ Below w3.heap.size w3 wr)
   (fun i _ _ => n - (intOf i).toNat)
  case atStart => exact ⟨0, s0, rfl, Nat.zero_le _, rfl, by omega, ((Below.refl _ _).drew).alloc (Nat.le_refl _) _⟩
  case round =>
   obtain ⟨k, t, rfl, hk, rfl, ht, hb4⟩ := hrel
   have hs4 := hb4.size
   by_cases hlt : k < n
   ·have hfk : (fieldsOf x.op)[k]? = some ((fieldsOf x.op)[k]'(by have := HN.out; omega)) := List.getElem?_eq_getElem _
    generalize (fieldsOf x.op)[k]'(by have := HN.out; omega) = fk at hfk
    obtain ⟨g, v0, v1, v2, v3, v4, rfl, hg, d0, d1, d2, d3, d4, hF⟩ := HFS.out.at_ k fk hfk
    have c0 := (hb4.cell (p := ⟨g, _, none⟩) hg).trans d0
    have c1 := (hb4.cell (p := ⟨g, _, none⟩) hg).trans d1
    have c2 := (hb4.cell (p := ⟨g, _, none⟩) hg).trans d2
    have c3 := (hb4.cell (p := ⟨g, _, none⟩) hg).trans d3
    have c4 := (hb4.cell (p := ⟨g, _, none⟩) hg).trans d4
    have hgw : g < wr.heap.size := by omega
    clear d0 d1 d2 d3 d4
    obtain ⟨⟨f0, caps0, rfl⟩, ⟨f1, caps1, rfl⟩, ⟨f2, caps2, rfl⟩, _, f4, caps4, rfl⟩ := hF.fns
    obtain ⟨f3, caps3, ⟨rfl, hen3⟩, hcall3⟩ := text_call hF
    have hrr : ∀ j, wr.cell? ⟨w.heap.size, j, none⟩ = (#[.int .i64 x.op, .int .i64 x.a, .int .i64 x.b, .int .i64 x.n, .int .u64 x.imm] : Array Value)[j]? := fun j => (hb4.cell (p := ⟨w.heap.size, j, none⟩) hsX3).trans (hr3 j)
    have hXw : w.heap.size < wr.heap.size := by omega
    have HCA := Lib.hid hcall3
    have HB4 := Lib.hid hb4
    have HT4 := Lib.hid (((HT.out.below HW1.out (Nat.le_refl _)).below (HB2.out.trans (HB3.out.mono hs2)) (Nat.le_refl _)).below hb4 (Nat.le_refl _))
    clear hcall3 hfk hF hb4
    go_wp2_with fail
    refine (HCA.out w3.heap.size _ x _ (HB4.out.alloc hs4 _) (Nat.le_refl _) HX.out (HT4.out.alloc _) rfl).mono ?_
    rintro e w5 ⟨s1, hs1', rfl, hb5⟩
    have HB5 := Lib.hid ((HB4.out.alloc hs4 _).trans (hb5.mono (by simp; omega)))
    have hc1 : ¬ (9223372036854775807 < 1 + s1.size) := by omega
    have hc2 : ¬ (9223372036854775807 < t.size + (1 + s1.size)) := by omega
    clear hb5
    go_wp2_with fail
    go_roundw
    case rel => exact ⟨k + 1, _, by go_num, by omega, rfl, by (rw [ByteArray.size_append, ByteArray.size_append]; have h2 : (ByteArray.mk #[32]).size = 1 := rfl; omega), HB5.out⟩
    case measure => simp [intOf]; omega
   ·have HB4 := Lib.hid hb4
    clear hb4
    go_wp2_with fail
    go_ret2
    refine ⟨⟨t, ?_⟩, (HW1.out.trans (HB2.out.mono (by omega))).trans ((HB3.out.mono (by omega)).trans (HB4.out.mono (by omega)))⟩
    rw [HRI.out]
    rfl
 ·have hright' : x.right = false := by simpa using hright
  clear hright
  go_wp2_with fail
  go_ret2
  refine ⟨⟨⟨#[]⟩, ?_⟩, HW1.out.trans (HB2.out.mono (by omega))⟩
  rw [hright']
  rfl

end Code
end Go.Proofs.YtegjeincncccaaaGreatDoor
