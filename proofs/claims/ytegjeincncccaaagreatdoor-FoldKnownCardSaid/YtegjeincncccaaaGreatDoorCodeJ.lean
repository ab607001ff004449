/- Package code: an instruction is right. -/
import Derived.Test.YtegjeincncccaaaGreatDoorCodeI
import Derived.Outline
namespace Go.Proofs.YtegjeincncccaaaGreatDoor
open Go.RowKit

namespace Code

attribute [local go_sem ↓] Go.wp_at_zero Go.wp_at_succ

theorem enc_len (fk : FK) (x : B.Ins) (hx : B.InU64 x.imm) : (enc fk x).length ≤ 10 := by
 unfold B.InU64 at hx
 cases fk with
 | small k lo hi => simp [enc]
 | number => exact sevens_len 10 _ (by omega) (by omega)
 | sign => exact sevens_len 10 _ (by omega) (by omega)
 | skip => exact sevens_len 10 _ (by omega) (by omega)
 | bytes => simp [enc]

theorem encs_len (x : B.Ins) (hx : B.InU64 x.imm) : ∀ fks : List FK, (encs fks x).length ≤ 10 * fks.length
 | [] => by simp [encs]
 | fk :: r => by
  have h1 := enc_len fk x hx
  have h2 := encs_len x hx r
  show (enc fk x ++ encs r x).length ≤ _
  rw [List.length_append, List.length_cons]; omega

theorem encs_append (a b : List FK) (x : B.Ins) : encs (a ++ b) x = encs a x ++ encs b x := by unfold encs; rw [List.flatMap_append]
theorem encs_one (fk : FK) (x : B.Ins) : encs [fk] x = enc fk x := by simp [encs]
theorem encs_take {fks : List FK} {i : Nat} {fk : FK} (h : fks[i]? = some fk) (x : B.Ins) : encs (fks.take (i + 1)) x = encs (fks.take i) x ++ enc fk x := by
 rw [List.take_add_one, h, encs_append]; simp [encs]
theorem gots_take {fks : List FK} {i : Nat} {fk : FK} (h : fks[i]? = some fk) (y x : B.Ins) : gots (fks.take (i + 1)) y x = got fk (gots (fks.take i) y x) y := by
 rw [List.take_add_one, h]; simp [gots, List.foldl_append]
theorem encs_at {fks : List FK} {i : Nat} {fk : FK} (h : fks[i]? = some fk) (x : B.Ins) : ∀ j c, (enc fk x)[j]? = some c → (encs fks x)[(encs (fks.take i) x).length + j]? = some c := by
 intro j c hc
 have hi := (List.getElem?_eq_some_iff.1 h).1
 have e : fks = fks.take (i + 1) ++ fks.drop (i + 1) := (List.take_append_drop _ _).symm
 have e2 : encs fks x = encs (fks.take i) x ++ (enc fk x ++ encs (fks.drop (i + 1)) x) := by
  rw [← List.append_assoc, ← encs_take h, ← encs_append, ← e]
 rw [e2, List.getElem?_append_right (by omega)]
 have hj := (List.getElem?_eq_some_iff.1 hc).1
 rw [show (encs (fks.take i) x).length + j - (encs (fks.take i) x).length = j by omega, List.getElem?_append_left hj]
 exact hc

theorem fieldsOf_len (o : Int) : (fieldsOf o).length ≤ 4 := by
 unfold fieldsOf
 repeat' split
 all_goals simp

/-- ahead of a field for bytes the byte's place has been asked -/
theorem fieldsOf_bytes (o : Int) (x : B.Ins) {i : Nat} (h : (fieldsOf o)[i]? = some .bytes) (hok : ∀ fk ∈ (fieldsOf o).take i, okB fk x = true) : 0 ≤ x.b ∧ x.b ≤ 7 := by
 have key : (FK.small 1 0 7) ∈ (fieldsOf o).take i := by
  unfold fieldsOf at h ⊢
  revert h
  repeat' split
  all_goals
   intro h
   rcases i with _ | _ | _ | _ | i <;> simp [reg, other, slot] at h ⊢
 have := hok _ key
 simpa [okB, inB, get] using this

theorem wr_new (w : World) (x : B.Ins) : WrAt (w.alloc (.cells #[.slice none 0 0, .int .i64 x.op, .int .i64 x.a, .int .i64 x.b, .int .i64 x.n, .int .u64 x.imm] 318)) w.heap.size w.heap.size [] x :=
 ⟨⟨none, 0, 0, heap_alloc_new w _, rfl, World.ownsRow_nil _ _ _ _⟩, Nat.le_refl _⟩

/-- a field's other functions are functions of the program as well -/
theorem FieldAt.fns {w : World} {fk : FK} {v0 v1 v2 v3 v4 : Value} (h : FieldAt w fk v0 v1 v2 v3 v4) :
    (∃ f c, v0 = .func (.func f) #[] c) ∧ (∃ f c, v1 = .func (.func f) #[] c) ∧ (∃ f c, v2 = .func (.func f) #[] c) ∧ (∃ f c, v3 = .func (.func f) #[] c) ∧ ∃ f c, v4 = .func (.func f) #[] c := by
 cases fk with
 | small k lo hi => obtain ⟨_, _, _, _, _, _, rfl, rfl, rfl, rfl, rfl⟩ := h; exact ⟨⟨_, _, rfl⟩, ⟨_, _, rfl⟩, ⟨_, _, rfl⟩, ⟨_, _, rfl⟩, _, _, rfl⟩
 | number => obtain ⟨rfl, rfl, rfl, rfl, rfl⟩ := h; exact ⟨⟨_, _, rfl⟩, ⟨_, _, rfl⟩, ⟨_, _, rfl⟩, ⟨_, _, rfl⟩, _, _, rfl⟩
 | sign => obtain ⟨rfl, rfl, rfl, rfl, rfl⟩ := h; exact ⟨⟨_, _, rfl⟩, ⟨_, _, rfl⟩, ⟨_, _, rfl⟩, ⟨_, _, rfl⟩, _, _, rfl⟩
 | skip => obtain ⟨_, _, _, _, _, rfl, rfl, rfl, rfl, rfl⟩ := h; exact ⟨⟨_, _, rfl⟩, ⟨_, _, rfl⟩, ⟨_, _, rfl⟩, ⟨_, _, rfl⟩, _, _, rfl⟩
 | bytes => obtain ⟨_, _, _, _, _, rfl, rfl, rfl, rfl, rfl⟩ := h; exact ⟨⟨_, _, rfl⟩, ⟨_, _, rfl⟩, ⟨_, _, rfl⟩, ⟨_, _, rfl⟩, _, _, rfl⟩

/-- whether an instruction is right is answered -/
def RightOut (x : B.Ins) (w : World) (e : Ending) (w' : World) : Prop := e = .returned (.bool x.right) ∧ Below w.heap.size w w'

theorem wr_below {w w' : World} {base Bw : Nat} {bs : List Nat} {x : B.Ins} (h : WrAt w base Bw bs x) (hb : Below w.heap.size w w') : WrAt w' base Bw bs x := by
 obtain ⟨⟨ao, n, cap, h1, h2, h3⟩, hlo⟩ := h
 exact ⟨⟨ao, n, cap, (hb.block _ (lt_of_block h1)).trans h1, h2, h3.kept (row := none) ⟨hb.os, hb.tape, hb.output, hb.size, fun k hk _ => hb.block k hk⟩ (by cases ao <;> simp [Value.ownBlock])⟩, hlo⟩

theorem rd_below {w w' : World} {base Rb : Nat} {bytes : List Nat} {p : Nat} {x : B.Ins} (h : RdAt w base Rb bytes p x) (hb : Below w.heap.size w w') : RdAt w' base Rb bytes p x := by
 obtain ⟨⟨ao, n, cap, h1, h2, h3⟩, hlo⟩ := h
 exact ⟨⟨ao, n, cap, (hb.block _ (lt_of_block h1)).trans h1, h2, h3.kept (row := none) ⟨hb.os, hb.tape, hb.output, hb.size, fun k hk _ => hb.block k hk⟩ (by cases ao <;> simp [Value.ownBlock])⟩, hlo⟩

theorem right_not (x : B.Ins) (h : B.isOp x.op = false) : x.right = false := by
 unfold B.Ins.right; rw [h]; rfl

theorem right_bad {x : B.Ins} (hw : x.Wf) (h : B.isOp x.op = true) {fk : FK} (hm : fk ∈ fieldsOf x.op) (hok : okB fk x = false) : x.right = false := by
 rw [right_law x hw h, Bool.and_eq_false_iff]
 left
 rw [List.all_eq_false]
 exact ⟨fk, hm, by simp [hok]⟩

set_option maxRecDepth 100000 in
set_option maxHeartbeats 3200000 in
theorem right_any (x : B.Ins) (T : Value) (b : Nat) (w : World) (hx : x.Wf) (hm : MapIs w b (tabL T)) (hT : TableAt w T) (_hbl : b < w.heap.size) :
    Calls Tryz.prog 186 #[.map (some b), valI x] w (RightOut x w) := by
 have hm1 : MapIs (w.alloc (.cells #[.int .i64 x.op, .int .i64 x.a, .int .i64 x.b, .int .i64 x.n, .int .u64 x.imm] 24)) b (tabL T) := by
  obtain ⟨es, clock, h1, h2⟩ := hm
  exact ⟨es, clock, blk_alloc h1, h2⟩
 have hT1 := Lib.hid (hT.below ((Below.refl _ _).alloc (Nat.le_refl _) (.cells #[.int .i64 x.op, .int .i64 x.a, .int .i64 x.b, .int .i64 x.n, .int .u64 x.imm] 24)) (Nat.le_refl _))
 have HM := Lib.hid hm1
 have HX := Lib.hid hx
 clear hm1 hT hm hx
 by_cases ho : B.isOp x.op = true
 ·have HO := Lib.hid ho
  clear ho
  unfold valI
  go_enter Tryz.func186, Tryz.ntmps186
  go_wp2_with (go_at_call 187; refine (of_any _ T b _ HM.out hT1.out HO.out).mono ?_; rintro e w1 ⟨ao, n, cap, rfl, hfs, hb1⟩; have hr := res_cell hb1 (by simp); have hs1 := hb1.size)
  have hsX : w.heap.size < w1.heap.size := by simp at hs1; omega
  have hn := hfs.len
  have hn4 := fieldsOf_len x.op
  have HW1 := Lib.hid (((Below.refl w.heap.size w).alloc (Nat.le_refl _) _).trans (hb1.mono (by simp)))
  have HFS := Lib.hid hfs
  have HB1 := Lib.hid hb1
  have HR := Lib.hid hr
  have HN := Lib.hid hn
  have hn' : n ≤ 4 := by omega
  clear hfs hb1 hr hn hn4
  go_loopw [27] (fun i wr => ∃ k : Nat, i = .int .i64 k ∧ k ≤ n ∧ WrAt wr w1.heap.size w1.heap.size (encs ((fieldsOf x.op).take k) x) x ∧ (∀ fk ∈ (fieldsOf x.op).take k, okB fk x = true) ∧ Below w1.heap.size w1 wr)
   (fun i _ => n - (intOf i).toNat)
  case atStart => exact ⟨0, rfl, Nat.zero_le _, wr_new w1 x, by simp, (Below.refl _ _).alloc (Nat.le_refl _) _⟩
  case round =>
   obtain ⟨k, rfl, hk, hwr, hoks, hb⟩ := hrel
   have hsz := hb.size
   by_cases hlt : k < n
   ·have hfk : (fieldsOf x.op)[k]? = some ((fieldsOf x.op)[k]'(by have := HN.out; omega)) := List.getElem?_eq_getElem _
    generalize (fieldsOf x.op)[k]'(by have := HN.out; omega) = fk at hfk
    obtain ⟨g, v0, v1, v2, v3, v4, rfl, hg, c0, c1, c2, c3, c4, hF⟩ := (HFS.out.below hb (Nat.le_refl _)).at_ k fk hfk
    obtain ⟨_, _, ⟨f2, caps2, rfl⟩, ⟨f3, caps3, rfl⟩, f4, caps4, rfl⟩ := hF.fns
    obtain ⟨f0, caps0, ⟨rfl, hen0⟩, hcall0⟩ := ok_call hF
    obtain ⟨f1, caps1, ⟨rfl, hen1⟩, hcall1⟩ := write_call hF
    have hrr : ∀ j, wr.cell? ⟨w.heap.size, j, none⟩ = (#[.int .i64 x.op, .int .i64 x.a, .int .i64 x.b, .int .i64 x.n, .int .u64 x.imm] : Array Value)[j]? := fun j => (hb.cell (p := ⟨w.heap.size, j, none⟩) hsX).trans (HR.out j)
    have hXw : w.heap.size < wr.heap.size := by omega
    have HCA := Lib.hid hcall0
    have HCB := Lib.hid hcall1
    have HFK := Lib.hid hfk
    have HF := Lib.hid hF
    have HW := Lib.hid hwr
    have HOK := Lib.hid hoks
    have HB := Lib.hid hb
    clear hcall0 hcall1 hfk hF hwr hoks hb
    go_wp2_with fail
    refine (HCA.out wr.heap.size _ x _ ((Below.refl _ _).alloc (Nat.le_refl _) _) (Nat.le_refl _) (fun e => fieldsOf_bytes x.op x (by rw [HFK.out, e]) HOK.out) rfl).mono ?_
    rintro e w2 ⟨rfl, hb2⟩
    have hb2w : Below wr.heap.size wr w2 := ((Below.refl _ _).alloc (Nat.le_refl _) _).trans (hb2.mono (by simp))
    have hs2 := hb2w.size
    have hrf := res_cell hb2 (by simp)
    have HB2 := Lib.hid hb2w
    have hW2 := Lib.hid (wr_below HW.out hb2w)
    clear hb2 hb2w
    by_cases hok : okB fk x = true
    ·go_wp2_with fail
     refine (HCB.out wr.heap.size _ x w1.heap.size w1.heap.size (encs ((fieldsOf x.op).take k) x) _ HB2.out (Nat.le_refl _) HX.out.imm ?_ hW2.out (by omega) rfl).mono ?_
     ·have h1 := encs_len x HX.out.imm ((fieldsOf x.op).take k)
      have h2 := fieldsOf_len x.op
      rw [List.length_take] at h1
      omega
     rintro e w3 ⟨rfl, hw3, hb3⟩
     have HW3 := Lib.hid hw3
     have HB3 := Lib.hid hb3
     have hs3 := hb3.size
     have HOKF := Lib.hid hok
     clear hw3 hb3 hok
     go_wp2_with fail
     go_roundw
     case rel =>
      refine ⟨k + 1, by go_num, by omega, by rw [encs_take HFK.out]; exact HW3.out, ?_, (HB.out.trans (HB2.out.mono (by omega))).trans HB3.out⟩
      rw [List.take_add_one, HFK.out]
      intro fk' hm
      rcases List.mem_append.1 hm with h | h
      ·exact HOK.out fk' h
      ·simp at h; subst h; exact HOKF.out
     case measure => simp [intOf]; omega
    ·have hok' : okB fk x = false := by simpa using hok
     clear hok
     go_wp2_with fail
     go_ret
     refine ⟨ret_bool ?_, ?_⟩
     ·exact (right_bad HX.out HO.out (List.mem_of_getElem? HFK.out) hok').symm
     ·exact (HW1.out.trans (HB.out.mono (by omega))).trans (HB2.out.mono (by omega))
   ·obtain rfl : k = n := by omega
    have HE : Hid ((fieldsOf x.op).take k = fieldsOf x.op) := List.take_of_length_le (by have := HN.out; omega)
    rw [HE.out] at hwr hoks
    have HOK := Lib.hid hoks
    have HB := Lib.hid hb
    obtain ⟨⟨ab, nb, cb, hblk, hnb, hown⟩, hlo⟩ := hwr
    have hbw := lt_of_block hblk
    have hw0 := cell_of_row wr w1.heap.size 0 _ _ _ hblk
    simp only [List.getElem?_toArray, List.getElem?_cons_zero] at hw0
    have hrr : ∀ j, wr.cell? ⟨w.heap.size, j, none⟩ = (#[.int .i64 x.op, .int .i64 x.a, .int .i64 x.b, .int .i64 x.n, .int .u64 x.imm] : Array Value)[j]? := fun j => (hb.cell (p := ⟨w.heap.size, j, none⟩) hsX).trans (HR.out j)
    have hXw : w.heap.size < wr.heap.size := by omega
    have HOWN := Lib.hid hown
    have HNB := Lib.hid hnb
    clear hoks hb hblk hnb hown
    go_wp2_with fail
    go_region_held3 (fun w' => w'.cell? ⟨w1.heap.size, 0, none⟩ = some (.slice ab nb cb) ∧ w'.cell? ⟨w.heap.size, 0, none⟩ = some (.int .i64 x.op)) (go_keep) (fail)
    go_wp2_with fail
    obtain ⟨wo, rfl⟩ : ∃ wo : World, wo = wr := ⟨_, rfl⟩
    go_loopw [52] (fun i wr => ∃ j : Nat, i = .int .i64 j ∧ j ≤ k ∧ RdAt wr w1.heap.size wo.heap.size (encs (fieldsOf x.op) x) (encs ((fieldsOf x.op).take j) x).length (gots ((fieldsOf x.op).take j) x ⟨x.op, 0, 0, 0, 0⟩) ∧ Below w1.heap.size w1 wr)
     (fun i _ => k - (intOf i).toNat)
    case atStart =>
     refine ⟨0, rfl, Nat.zero_le _, ⟨⟨ab, nb, cb, ?_, HNB.out, (HOWN.out.alloc _).drew⟩, hsz⟩, ?_⟩
     ·exact heap_alloc_new wo _
     ·exact (HB.out.alloc hsz _).drew
    case round =>
     obtain ⟨j, rfl, hj, hrd, hb4⟩ := hrel
     have hs4 := hb4.size
     by_cases hlt : j < k
     ·have hfk : (fieldsOf x.op)[j]? = some ((fieldsOf x.op)[j]'(by have := HN.out; omega)) := List.getElem?_eq_getElem _
      generalize (fieldsOf x.op)[j]'(by have := HN.out; omega) = fk at hfk
      obtain ⟨g, v0, v1, v2, v3, v4, rfl, hg, d0, d1, d2, d3, d4, hF⟩ := HFS.out.at_ j fk hfk
      have c0 := (hb4.cell (p := ⟨g, _, none⟩) hg).trans d0
      have c1 := (hb4.cell (p := ⟨g, _, none⟩) hg).trans d1
      have c2 := (hb4.cell (p := ⟨g, _, none⟩) hg).trans d2
      have c3 := (hb4.cell (p := ⟨g, _, none⟩) hg).trans d3
      have c4 := (hb4.cell (p := ⟨g, _, none⟩) hg).trans d4
      have hgw : g < wr.heap.size := by omega
      clear d0 d1 d2 d3 d4
      obtain ⟨⟨f0, caps0, rfl⟩, ⟨f1, caps1, rfl⟩, _, ⟨f3, caps3, rfl⟩, f4, caps4, rfl⟩ := hF.fns
      obtain ⟨f2, caps2, ⟨rfl, hen2⟩, hcall2⟩ := read_call hF
      have HCA := Lib.hid hcall2
      have HFK := Lib.hid hfk
      have HRD := Lib.hid (rd_below hrd ((Below.refl _ _).alloc (Nat.le_refl _) (.cells #[.func (.func f0) #[] caps0, .func (.func f1) #[] caps1, .func (.func f2) #[] caps2, .func (.func f3) #[] caps3, .func (.func f4) #[] caps4] 269)))
      have HB4 := Lib.hid hb4
      clear hcall2 hfk hF hrd hb4
      go_wp2_with fail
      refine (HCA.out w1.heap.size _ _ x _ w1.heap.size _ _ _ (HB4.out.alloc hs4 _) (Nat.le_refl _) (Nat.le_refl _) HX.out.imm (HOK.out fk (List.mem_of_getElem? HFK.out)) ?hlen HRD.out (encs_at HFK.out x) rfl).mono ?_
      case hlen =>
       have h1 := encs_len x HX.out.imm (fieldsOf x.op)
       have h2 := fieldsOf_len x.op
       omega
      rintro e w5 ⟨rfl, hr5, hb5⟩
      have HR5 := Lib.hid hr5
      have HB5 := Lib.hid ((HB4.out.alloc hs4 _).trans hb5)
      clear hr5 hb5
      go_wp2_with fail
      go_roundw
      case rel => exact ⟨j + 1, by go_num, by omega, by rw [encs_take HFK.out, gots_take HFK.out, List.length_append]; exact HR5.out, HB5.out⟩
      case measure => simp [intOf]; omega
     ·obtain rfl : j = k := by omega
      rw [HE.out] at hrd
      obtain ⟨⟨ar, nr, cr, hrk, hnr, hor⟩, hlo2⟩ := hrd
      have hr2 := cell_of_row wr wo.heap.size 2 _ _ _ hrk
      have hr3 := cell_of_row wr wo.heap.size 3 _ _ _ hrk
      have hr4 := cell_of_row wr wo.heap.size 4 _ _ _ hrk
      have hr5 := cell_of_row wr wo.heap.size 5 _ _ _ hrk
      have hr6 := cell_of_row wr wo.heap.size 6 _ _ _ hrk
      simp only [rdCells, List.getElem?_toArray, List.getElem?_cons_zero, List.getElem?_cons_succ] at hr2 hr3 hr4 hr5 hr6
      have hrr4 : ∀ j, wr.cell? ⟨w.heap.size, j, none⟩ = (#[.int .i64 x.op, .int .i64 x.a, .int .i64 x.b, .int .i64 x.n, .int .u64 x.imm] : Array Value)[j]? := fun j => (hb4.cell (p := ⟨w.heap.size, j, none⟩) hsX).trans (HR.out j)
      have HB4 := Lib.hid hb4
      have hrl := right_law x HX.out HO.out
      rw [List.all_eq_true.2 HOK.out, Bool.true_and] at hrl
      have HRL := Lib.hid hrl
      generalize gots (fieldsOf x.op) x ⟨x.op, 0, 0, 0, 0⟩ = y at *
      clear hrk hnr hor hb4 hrl
      obtain ⟨yo, ya, yb, yn, ym⟩ := y
      simp only at hr2 hr3 hr4 hr5 hr6
      by_cases q0 : yo = x.op
      ·subst q0
       by_cases q1 : ya = x.a
       ·subst q1
        by_cases q2 : yb = x.b
        ·subst q2
         by_cases q3 : yn = x.n
         ·subst q3
          by_cases q4 : ym = x.imm
          ·subst q4
           go_wp2_with fail
           go_quiet (fail)
           go_wp2_with fail
           go_ret
           exact ⟨ret_bool (by rw [HRL.out]; simp), belowN (HW1.out.trans (HB4.out.mono (by omega))) _⟩
          ·have qd : (ym == x.imm) = false := by simpa using q4
           have QN := Lib.hid q4
           clear q4
           go_wp2_with fail
           go_quiet (fail)
           go_wp2_with fail
           go_ret
           refine ⟨ret_bool ?_, belowN (HW1.out.trans (HB4.out.mono (by omega))) _⟩
           rw [HRL.out]
           have := QN.out
           symm
           rw [decide_eq_false_iff_not]
           intro h
           exact this (by rw [← h])
         ·have qd : (yn == x.n) = false := by simpa using q3
          have QN := Lib.hid q3
          clear q3
          go_wp2_with fail
          go_quiet (fail)
          go_wp2_with fail
          go_ret
          refine ⟨ret_bool ?_, belowN (HW1.out.trans (HB4.out.mono (by omega))) _⟩
          rw [HRL.out]
          have := QN.out
          symm
          rw [decide_eq_false_iff_not]
          intro h
          exact this (by rw [← h])
        ·have qd : (yb == x.b) = false := by simpa using q2
         have QN := Lib.hid q2
         clear q2
         go_wp2_with fail
         go_quiet (fail)
         go_wp2_with fail
         go_ret
         refine ⟨ret_bool ?_, belowN (HW1.out.trans (HB4.out.mono (by omega))) _⟩
         rw [HRL.out]
         have := QN.out
         symm
         rw [decide_eq_false_iff_not]
         intro h
         exact this (by rw [← h])
       ·have qd : (ya == x.a) = false := by simpa using q1
        have QN := Lib.hid q1
        clear q1
        go_wp2_with fail
        go_quiet (fail)
        go_wp2_with fail
        go_ret
        refine ⟨ret_bool ?_, belowN (HW1.out.trans (HB4.out.mono (by omega))) _⟩
        rw [HRL.out]
        have := QN.out
        symm
        rw [decide_eq_false_iff_not]
        intro h
        exact this (by rw [← h])
      ·have qd : (yo == x.op) = false := by simpa using q0
       have QN := Lib.hid q0
       clear q0
       go_wp2_with fail
       go_quiet (fail)
       go_wp2_with fail
       go_ret
       refine ⟨ret_bool ?_, belowN (HW1.out.trans (HB4.out.mono (by omega))) _⟩
       rw [HRL.out]
       have := QN.out
       symm
       rw [decide_eq_false_iff_not]
       intro h
       exact this (by rw [← h])
 ·have ho' : B.isOp x.op = false := by simpa using ho
  clear ho
  have HO := Lib.hid ho'
  clear ho'
  unfold valI
  go_enter Tryz.func186, Tryz.ntmps186
  go_wp2_with (go_at_call 187; refine (of_none _ T b _ HM.out HO.out).mono ?_; rintro e w1 ⟨rfl, rfl⟩)
  go_ret
  exact ⟨ret_bool (right_not x HO.out).symm, (Below.refl _ _).alloc (Nat.le_refl _) _⟩

end Code
end Go.Proofs.YtegjeincncccaaaGreatDoor
