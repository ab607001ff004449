/- busbarlaw13: is a program answered so? Programs as long as may be. -/
import Derived.Test.YthafeadfpfibkaaGreatDoorMore2
namespace Go.Proofs.YthafeadfpfibkaaGreatDoor
open Go.RowKit

namespace Code

attribute [local go_sem ↓] Go.wp_at_zero Go.wp_at_succ

def wfB (x : B.Ins) : Bool := decide (B.In64 x.op) && decide (B.In64 x.a) && decide (B.In64 x.b) && decide (B.In64 x.n) && decide (B.InU64 x.imm)
theorem wf_of {ps : List B.Ins} (h : ps.all wfB = true) : ∀ y ∈ ps, y.Wf := by
  intro y hy
  have := List.all_eq_true.1 h y hy
  simp only [wfB, Bool.and_eq_true, decide_eq_true_eq] at this
  exact ⟨this.1.1.1.1, this.1.1.1.2, this.1.1.2, this.1.2, this.2⟩

set_option maxHeartbeats 1600000 in
theorem told_any (a : Option Addr) (len cap : Nat) (ps : List B.Ins) (no at_ : Int) (w : World) (hp : ProgAt w a len ps) (hwf : ∀ y ∈ ps, y.Wf) (hR : Ready w) (hl : len ≤ 9223372036854775807) :
    Calls Tryz.prog 33 #[.slice a len cap, .int .i64 no, .int .i64 at_] w (BoolOut (atB (progEr ps 2 1) no 0 at_) w) := by
  have HP := Lib.hid hp
  have HWF := Lib.hid hwf
  have HR := Lib.hid hR
  have HOK := Lib.hid (progEr_ok ps 2 1)
  clear hp hwf hR
  go_enter Tryz.func33, Tryz.ntmps33
  go_wp2_with fail
  refine (program_er a len cap ps 2 1 _ HP.out HWF.out HR.out.tabs hl).mono ?_
  rintro e w1 ⟨rfl, hb1⟩
  have HB1 := Lib.hid hb1
  have hs1 := hb1.size
  clear hb1
  generalize progEr ps 2 1 = er at *
  go_wp2_with fail
  refine (at_any er HOK.out no 0 at_ _ (HR.out.err.below HB1.out (Nat.le_refl _))).mono ?_
  rintro e w2 ⟨rfl, hb2⟩
  have HB2 := Lib.hid (HB1.out.trans (hb2.mono hs1))
  clear hb2
  go_wp2_with fail
  go_ret
  exact ⟨rfl, HB2.out⟩

theorem progAt_newX (ps : List B.Ins) (C : Array Value) (n : Nat) (t : TypeId) (w : World) {X : Nat} (hX : X = w.heap.size) (hC : C.toList = cellsP ps) (hn : n = ps.length) : ProgAt (w.alloc (.cells C t)) (some ⟨X, 0, none⟩) n ps := by
  subst hX
  exact progAt_new ps C n t w hC hn

/-- a program of a literal is answered so -/
theorem told_lit (ps : List B.Ins) (no at_ : Int) {w : World} {C : Array Value} {n : Nat} (hR : Ready w) (hC : C.toList = cellsP ps) (hn : n = ps.length) (hwf : ps.all wfB = true) (hB : atB (progEr ps 2 1) no 0 at_ = true) (hl : ps.length ≤ 9223372036854775807) :
    Calls Tryz.prog 33 #[.slice (some ⟨w.heap.size, 0, none⟩) n n, .int .i64 no, .int .i64 at_] (w.alloc (.cells C 38)) (BoolOut true (w.alloc (.cells C 38))) := by
  have h := told_any (some ⟨w.heap.size, 0, none⟩) n n ps no at_ _ (progAt_new ps C n 38 w hC hn) (wf_of hwf) (hR.below ((Below.refl w.heap.size w).alloc (Nat.le_refl _) (.cells C 38)) (Nat.le_refl _)) (by omega)
  rw [hB] at h
  exact h

theorem told_none (no at_ : Int) {w : World} (hR : Ready w) (hB : atB (progEr [] 2 1) no 0 at_ = true) :
    Calls Tryz.prog 33 #[.slice none 0 0, .int .i64 no, .int .i64 at_] w (BoolOut true w) := by
  have h := told_any none 0 0 [] no at_ _ (progAt_nil w) (fun y hy => by cases hy) hR (by omega)
  rw [hB] at h
  exact h

/-- an instruction in a block of its own, in numbers -/
def BoxV (o a b n m : Int) (X : Nat) (w : World) : Prop :=
  w.cell? ⟨X, 0, none⟩ = some (.int .i64 o) ∧ w.cell? ⟨X, 1, none⟩ = some (.int .i64 a) ∧ w.cell? ⟨X, 2, none⟩ = some (.int .i64 b) ∧ w.cell? ⟨X, 3, none⟩ = some (.int .i64 n) ∧ w.cell? ⟨X, 4, none⟩ = some (.int .u64 m)

theorem BoxV.below {o a b n m : Int} {X N : Nat} {w w' : World} (h : BoxV o a b n m X w) (hb : Below N w w') (hN : X < N) : BoxV o a b n m X w' :=
  ⟨(hb.cell (p := ⟨X, 0, none⟩) hN).trans h.1, (hb.cell (p := ⟨X, 1, none⟩) hN).trans h.2.1, (hb.cell (p := ⟨X, 2, none⟩) hN).trans h.2.2.1, (hb.cell (p := ⟨X, 3, none⟩) hN).trans h.2.2.2.1, (hb.cell (p := ⟨X, 4, none⟩) hN).trans h.2.2.2.2⟩

theorem BoxV.lt {o a b n m : Int} {X : Nat} {w : World} (h : BoxV o a b n m X w) : X < w.heap.size := World.block_lt_of_cell? w _ h.1

theorem BoxV.more {o a b n m : Int} {X : Nat} {w : World} (h : BoxV o a b n m X w) (c : Obj) : BoxV o a b n m X (w.alloc c) := h.below ((Below.refl w.heap.size w).alloc (Nat.le_refl _) c) h.lt

theorem boxV_new (o a b n m : Int) (w : World) (t : TypeId) (X : Nat) (hX : X = w.heap.size) : BoxV o a b n m X (w.alloc (.cells #[.int .i64 o, .int .i64 a, .int .i64 b, .int .i64 n, .int .u64 m] t)) := by
  subst hX
  have hb := heap_alloc_new w (.cells #[.int .i64 o, .int .i64 a, .int .i64 b, .int .i64 n, .int .u64 m] t)
  refine ⟨?_, ?_, ?_, ?_, ?_⟩ <;> (rw [cell_of_row _ _ _ _ _ _ hb]; rfl)

theorem BoxV.set1 {o a b n m : Int} {X : Nat} {w : World} (h : BoxV o a b n m X w) (v : Int) : BoxV o v b n m X (w.setCell ⟨X, 1, none⟩ (.int .i64 v)) :=
  ⟨(World.cell?_setCell_other _ _ _ _ (by simp)).trans h.1, World.cell?_setCell_same _ _ _ h.2.1, (World.cell?_setCell_other _ _ _ _ (by simp)).trans h.2.2.1, (World.cell?_setCell_other _ _ _ _ (by simp)).trans h.2.2.2.1, (World.cell?_setCell_other _ _ _ _ (by simp)).trans h.2.2.2.2⟩
theorem BoxV.set2 {o a b n m : Int} {X : Nat} {w : World} (h : BoxV o a b n m X w) (v : Int) : BoxV o a v n m X (w.setCell ⟨X, 2, none⟩ (.int .i64 v)) :=
  ⟨(World.cell?_setCell_other _ _ _ _ (by simp)).trans h.1, (World.cell?_setCell_other _ _ _ _ (by simp)).trans h.2.1, World.cell?_setCell_same _ _ _ h.2.2.1, (World.cell?_setCell_other _ _ _ _ (by simp)).trans h.2.2.2.1, (World.cell?_setCell_other _ _ _ _ (by simp)).trans h.2.2.2.2⟩
theorem BoxV.set3 {o a b n m : Int} {X : Nat} {w : World} (h : BoxV o a b n m X w) (v : Int) : BoxV o a b v m X (w.setCell ⟨X, 3, none⟩ (.int .i64 v)) :=
  ⟨(World.cell?_setCell_other _ _ _ _ (by simp)).trans h.1, (World.cell?_setCell_other _ _ _ _ (by simp)).trans h.2.1, (World.cell?_setCell_other _ _ _ _ (by simp)).trans h.2.2.1, World.cell?_setCell_same _ _ _ h.2.2.2.1, (World.cell?_setCell_other _ _ _ _ (by simp)).trans h.2.2.2.2⟩

def Stable (S : World → Prop) : Prop := ∀ w w', S w → Below w.heap.size w w' → S w'

theorem told_keep (S : World → Prop) (hS : Stable S) (ps : List B.Ins) (no at_ : Int) {w : World} {C : Array Value} {n X : Nat} (hX : X = w.heap.size) (hR : Ready w) (h3 : S w) (hC : C.toList = cellsP ps) (hn : n = ps.length) (hwf : ps.all wfB = true) (hB : atB (progEr ps 2 1) no 0 at_ = true) (hl : ps.length ≤ 9223372036854775807) :
    Calls Tryz.prog 33 #[.slice (some ⟨X, 0, none⟩) n n, .int .i64 no, .int .i64 at_] (w.alloc (.cells C 38)) (fun e w' => e = .returned (.bool true) ∧ Below w.heap.size w w' ∧ S w') := by
  subst hX
  refine (told_lit ps no at_ hR hC hn hwf hB hl).mono ?_
  rintro e w' ⟨rfl, hb⟩
  have hb' : Below w.heap.size w w' := ((Below.refl w.heap.size w).alloc (Nat.le_refl _) _).trans (hb.mono (by simp))
  exact ⟨rfl, hb', hS _ _ h3 hb'⟩

def halt : B.Ins := ⟨0, 0, 0, 0, 0⟩
def longP (n : Int) (k : Nat) : List B.Ins := ⟨18, 0, 0, n, 0⟩ :: List.replicate k halt

theorem longP_succ (n : Int) (k : Nat) : longP n k ++ [halt] = longP n (k + 1) := by
  unfold longP
  rw [List.cons_append, ← List.replicate_succ']

theorem longP_wf (n : Int) (h0 : 0 ≤ n) (h1 : n ≤ 16384) (k : Nat) : ∀ y ∈ longP n k, y.Wf := by
  intro y hy
  unfold longP at hy
  rcases List.mem_cons.1 hy with rfl | h
  · refine ⟨?_, ?_, ?_, ?_, ?_⟩ <;> (simp only [B.In64, B.InU64]; omega)
  · rw [(List.mem_replicate.1 h).2]
    exact ⟨by decide, by decide, by decide, by decide, by decide⟩

theorem longP_run : progEr (longP 16383 16383) 2 1 = .nil := by
  have h := (B.mayRun_nil (size := 2) (slots := 1) (by omega) (by omega)).passed (l := List.replicate 16383 halt) (fun x hx => by rw [(List.mem_replicate.1 hx).2]; exact B.halt_ok 2 1 0) (by rw [List.length_replicate]; simp)
  rw [List.append_nil, List.length_replicate] at h
  have e : B.program (longP 16383 16383) 2 1 = (0, none) := (B.program_ok _ _ _).2 h
  unfold progEr
  rw [e]
  rfl

theorem longP_length (n : Int) (k : Nat) : (longP n k).length = k + 1 := by unfold longP; rw [List.length_cons, List.length_replicate]

theorem longP_beyond : progEr (longP 16384 16383) 2 1 = .fault 16 0 := by
  have hf : B.firstTouch 2 1 (longP 16384 16383).length 0 (longP 16384 16383) = some (16, 0) := by
    rw [longP_length]
    unfold longP
    rw [firstTouch_step]
    rw [if_neg (by decide)]
    rw [if_pos (by decide)]
    rfl
  unfold progEr B.program
  rw [if_neg (by decide), if_neg (by rw [longP_length]; omega), hf]
  rfl

theorem longP_many (n : Int) (x : B.Ins) : progEr (longP n 16383 ++ [x]) 2 1 = .plain 5 := by
  unfold progEr B.program
  rw [if_neg (by decide), if_pos (by rw [List.length_append, longP_length]; simp)]
  rfl

def lenV : Value → Nat
  | .slice _ n _ => n
  | _ => 0

theorem cells_long (n : Int) (k : Nat) (m : Int) : (cellsP (longP n k)).set 3 (.int .i64 m) = cellsP (longP m k) := by
  unfold longP cellsP
  rw [List.flatMap_cons, List.flatMap_cons]
  rfl

theorem own_long {w : World} {base g cap k : Nat} {n : Int} (m : Int) (h : OwnP w base (some ⟨g, 0, none⟩) (k + 1) cap (longP n k)) : OwnP (w.setCell ⟨g, 3, none⟩ (.int .i64 m)) base (some ⟨g, 0, none⟩) (k + 1) cap (longP m k) := by
  refine ⟨by rw [longP_length], ?_⟩
  have := (h.own.stored 3 (.int .i64 m)).1
  rw [cells_long] at this
  exact this

theorem plainB5 : plainB (.plain 5) 5 = true := by decide

set_option maxRecDepth 100000 in
set_option maxHeartbeats 3200000 in
theorem long_any (w : World) (hR : Ready w) : Calls Tryz.prog 35 #[] w (BoolOut true w) := by
  have HR := Lib.hid hR
  clear hR
  have hlit : OwnP (w.alloc (.cells #[.int .i64 18, .int .i64 0, .int .i64 0, .int .i64 16383, .int .u64 0] 38)) w.heap.size (some ⟨w.heap.size, 0, none⟩) 1 1 (longP 16383 0) :=
    ⟨rfl, World.ownsRow_lit w #[.int .i64 18, .int .i64 0, .int .i64 0, .int .i64 16383, .int .u64 0] 1 (Nat.le_refl _) (by simp [maxLen]) rfl⟩
  have HLIT := Lib.hid hlit
  clear hlit
  go_enter Tryz.func35, Tryz.ntmps35
  go_wp2_with fail
  go_loopw [1] (fun v wr => ∃ (k : Nat) (ao : Option Addr) (cp : Nat), k ≤ 16383 ∧ v = .slice ao (k + 1) cp ∧ OwnP wr w.heap.size ao (k + 1) cp (longP 16383 k) ∧ Below w.heap.size w wr) (fun v _ => 16384 - lenV v)
  case atStart => exact ⟨0, _, _, Nat.zero_le _, rfl, HLIT.out, (Below.refl _ _).alloc (Nat.le_refl _) _⟩
  case round =>
    obtain ⟨k, ao, cp, hk, rfl, hown, hb⟩ := hrel
    have HB := Lib.hid hb
    have HO := Lib.hid hown
    have hsz := hb.size
    by_cases hlt : k < 16383
    · clear hown hb
      go_wp2_with (at_builtin; refine app_ins rfl _ _ rfl w.heap.size rfl HO.out rfl (by omega) (by omega) ?_; intro ao' cp' w1 hown1 hb1 hs1)
      go_roundw
      case rel => exact ⟨k + 1, ao', cp', by omega, rfl, by rw [← longP_succ]; exact hown1, HB.out.trans hb1⟩
      case measure => simp [lenV]; omega
    · obtain rfl : k = 16383 := by omega
      obtain ⟨g, rfl, hg1, hg2, hI⟩ := hown.insAt (i := 0) (x := ⟨18, 0, 0, 16383, 0⟩) rfl
      clear hown hb hI
      have h1 := told_any (some ⟨g, 0, none⟩) 16384 cp (longP 16383 16383) 0 0 wr HO.out.progAt (longP_wf _ (by omega) (by omega) _) (HR.out.below HB.out (Nat.le_refl _)) (by omega)
      rw [longP_run] at h1
      have HT1 := Lib.hid h1
      clear h1
      go_wp2_with fail
      refine HT1.out.mono ?_
      rintro e w1 ⟨rfl, hb1⟩
      have hs1 := hb1.size
      have ho1 := HO.out.kept hb1
      have HB1 := Lib.hid (HB.out.trans (hb1.mono hsz))
      have HO1 := Lib.hid (own_long 16384 ho1)
      have hfr1 := ho1.own.frozenAt 3
      obtain ⟨g', e1, _, _, hI1⟩ := ho1.insAt (i := 0) (x := ⟨18, 0, 0, 16383, 0⟩) rfl
      obtain rfl : g = g' := by simpa using e1
      obtain ⟨c0, c1, c2, c3, c4⟩ := hI1
      simp only [Nat.zero_mul, Nat.zero_add] at c0 c1 c2 c3 c4
      have HB1s := Lib.hid (HB1.out.setCell (p := ⟨g, 3, none⟩) hg1 (.int .i64 16384))
      have h2 := told_any (some ⟨g, 0, none⟩) 16384 cp (longP 16384 16383) 16 0 _ HO1.out.progAt (longP_wf _ (by omega) (by omega) _) (HR.out.below HB1s.out (Nat.le_refl _)) (by omega)
      rw [longP_beyond] at h2
      have HT2 := Lib.hid h2
      clear h2 hb1 ho1 e1
      go_wp2_with fail
      refine HT2.out.mono ?_
      rintro e w2 ⟨rfl, hb2⟩
      have hs2 := hb2.size
      have ho2 := HO1.out.kept hb2
      have HB2 := Lib.hid (HB1s.out.trans (hb2.mono (by simp; omega)))
      have HO2 := Lib.hid (own_long 0 ho2)
      have hfr2 := ho2.own.frozenAt 3
      obtain ⟨g', e2, _, _, hI2⟩ := ho2.insAt (i := 0) (x := ⟨18, 0, 0, 16384, 0⟩) rfl
      obtain rfl : g = g' := by simpa using e2
      obtain ⟨d0, d1, d2, d3, d4⟩ := hI2
      simp only [Nat.zero_mul, Nat.zero_add] at d0 d1 d2 d3 d4
      have HB2s := Lib.hid (HB2.out.setCell (p := ⟨g, 3, none⟩) hg1 (.int .i64 0))
      have hs2s := HB2s.out.size
      clear hb2 ho2 e2
      go_wp2_with (at_builtin; refine app_ins rfl _ _ rfl w.heap.size rfl HO2.out (by rw [show (w2.setCell ⟨g, 3, none⟩ (.int .i64 0)).heap.size = w2.heap.size by simp]; rfl) (by omega) hs2s ?_; intro ao' cp' w3 hown3 hb3 hs3)
      have HB3 := Lib.hid (HB2s.out.trans hb3)
      have hs3' := HB3.out.size
      refine (program_er ao' 16385 cp' _ 2 1 _ hown3.progAt (fun y hy => ?_) (HR.out.tabs.below HB3.out (Nat.le_refl _)) (by omega)).mono ?_
      · rcases List.mem_append.1 hy with h | h
        · exact longP_wf 0 (by omega) (by omega) _ y h
        · simp at h; subst h; exact ⟨by decide, by decide, by decide, by decide, by decide⟩
      rintro e w4 ⟨rfl, hb4⟩
      rw [longP_many]
      have HB4 := Lib.hid (HB3.out.trans (hb4.mono hs3'))
      have hs4 := HB4.out.size
      clear hb4 hown3 hb3
      go_wp2_with fail
      refine (plain_any (.plain 5) ⟨by omega, by omega⟩ 5 _ (HR.out.err.below HB4.out (Nat.le_refl _))).mono ?_
      rintro e w5 ⟨rfl, hb5⟩
      rw [plainB5]
      have HB5 := Lib.hid (HB4.out.trans (hb5.mono hs4))
      clear hb5
      go_wp2_with fail
      go_ret
      exact ⟨rfl, HB5.out⟩

end Code
end Go.Proofs.YthafeadfpfibkaaGreatDoor
