/- Package law15: a signal at a place; the message of the document's examples. -/
import Derived.Test.YtdpjbnjlognmeaaGreatDoorLyD
namespace Go.Proofs.YtdpjbnjlognmeaaGreatDoor
open Go.RowKit

namespace B

/-- a signal at a place, its texts written out -/
def sigL (name : ByteArray) (role branch start size : Int) : Sig := ⟨0, 0, name, role, branch, start, size, false, false, ⟨1, 1⟩, ⟨0, 1⟩, ⟨0, 1⟩, ⟨0, 1⟩, ⟨#[]⟩, [⟨#[65]⟩]⟩
theorem sigL_eq (name : ByteArray) (role branch start size : Int) : sigL name role branch start size = sigOf name role branch start size := by
 have e1 : "".toUTF8 = ⟨#[]⟩ := by decide +kernel
 have e2 : "A".toUTF8 = ⟨#[65]⟩ := by decide +kernel
 unfold sigL sigOf
 rw [e1, e2]

def exS : List Sig := [sigL ⟨#[115]⟩ 1 0 0 2, { sigL ⟨#[98]⟩ 2 3 4 4 with signed := true }, { sigL ⟨#[99]⟩ 2 2 15 8 with moto := true }, sigL ⟨#[100]⟩ 0 0 2 1]
def exL : Msg := ⟨0, 0, 1, false, ⟨#[77]⟩, 2, ⟨#[65]⟩, exS⟩
theorem exL_eq : exL = exM := by
 have e1 : "M".toUTF8 = ⟨#[77]⟩ := by decide +kernel
 have e2 : "A".toUTF8 = ⟨#[65]⟩ := by decide +kernel
 have e3 : "s".toUTF8 = ⟨#[115]⟩ := by decide +kernel
 have e4 : "b".toUTF8 = ⟨#[98]⟩ := by decide +kernel
 have e5 : "c".toUTF8 = ⟨#[99]⟩ := by decide +kernel
 have e6 : "d".toUTF8 = ⟨#[100]⟩ := by decide +kernel
 unfold exL exM exS
 rw [e1, e2, e3, e4, e5, e6]
 simp only [sigL_eq]

end B

namespace Code

attribute [local go_sem ↓] Go.wp_at_zero Go.wp_at_succ

/-- a signal of the call's own -/
def SigOut (s : B.Sig) (w : World) (e : Ending) (w' : World) : Prop := ∃ b, e = .returned (.agg (sigC s (.slice (some ⟨b, 0, none⟩) 1 1))) ∧ w.heap.size ≤ b ∧ w'.heap[b]? = some (.cells #[.string ⟨#[65]⟩] 9 (0, 0)) ∧ Below w.heap.size w w'

theorem toAt_one {w : World} {b : Nat} {s : ByteArray} (h : w.heap[b]? = some (.cells #[.string s] 9 (0, 0))) : ToAt w (.slice (some ⟨b, 0, none⟩) 1 1) [s] := by
 refine ⟨_, _, _, rfl, ⟨rfl, fun i v hv => ?_⟩, by omega, fun b' o e => ?_⟩
 ·have hi : i = 0 := by have := (List.getElem?_eq_some_iff.1 hv).1; simp at this; omega
  subst hi
  refine ⟨b, 0, rfl, lt_of_block h, ?_⟩
  rw [cell_of_row _ _ _ _ _ _ h]
  exact hv
 ·injection e with e
  injection e with e _ _
  subst e
  exact ⟨_, h⟩

set_option maxRecDepth 100000 in
set_option maxHeartbeats 6400000 in
theorem signal_any (nm : ByteArray) (role branch start size : Int) (w : World) :
    Calls Tryz.prog 39 #[.string nm, .int .i64 role, .int .u64 branch, .int .i64 start, .int .i64 size] w (SigOut (B.sigL nm role branch start size) w) := by
 go_enter Tryz.func39, Tryz.ntmps39
 go_upto_region 1 with fail
 generalize hw1 : World.alloc _ _ = w1
 have hb1 : Below w.heap.size w w1 := by rw [← hw1]; exact (Below.refl _ _).alloc (Nat.le_refl _) _
 have ht1 : w1.there w.heap.size 0 19 := by rw [← hw1]; exact there_alloc _ _ _ (by rfl)
 have hz1 : w.heap.size < w1.heap.size := by rw [← hw1]; simp
 clear hw1
 go_upto_region 2 with fail
 have hb2 : Below w1.heap.size w1 (w1.alloc (.cells #[.int .i64 0, .int .i64 1] 37)) := (Below.refl _ _).alloc (Nat.le_refl _) _
 have hr2 := RC.new #[.int .i64 0, .int .i64 1] 37 w1 (n := 2) rfl rfl
 have ht2 := World.there_alloc ht1 (.cells #[.int .i64 0, .int .i64 1] 37)
 obtain ⟨w2, hw2⟩ : ∃ w2, w1.alloc (.cells #[.int .i64 0, .int .i64 1] 37) = w2 := ⟨_, rfl⟩
 obtain ⟨R, hR⟩ : ∃ R, w1.heap.size = R := ⟨_, rfl⟩
 rw [hw2] at hb2 hr2 ht2 ⊢
 have c0 : w2.cell? ⟨w1.heap.size, 0, none⟩ = some (.int .i64 0) := hr2.cell (j := 0) rfl
 have c1 : w2.cell? ⟨w1.heap.size, 1, none⟩ = some (.int .i64 1) := hr2.cell (j := 1) rfl
 have HT := Lib.hid (World.there_alloc ht2 (.cells #[.string ⟨#[65]⟩] 9))
 have HB2 := Lib.hid (hb1.trans (hb2.mono hb1.size))
 have HZ2 : Hid (w.heap.size < w2.heap.size) := Lib.hid (Nat.lt_of_lt_of_le hz1 hb2.size)
 rw [hR] at c0 c1 ⊢
 clear hw2 hr2 ht1 ht2 hb1 hb2 hz1 hR
 go_wp2_with (refine wpList_store_mid (by rfl) 40 _ _ (by rfl) w.heap.size 0 (sigC (B.sigL nm role branch start size) (.slice (some ⟨w2.heap.size, 0, none⟩) 1 1)) (by rfl) (by rfl) HT.out (by rw [infoN40]; rfl) (ones_sig _ _ _ _) ?_; generalize hw4 : World.setCells _ _ _ _ = w4)
 have hsn := heap_alloc_new w2 (.cells #[.string ⟨#[65]⟩] 9)
 have hgr := grownBy_setCells w.heap.size (sigC (B.sigL nm role branch start size) (.slice (some ⟨w2.heap.size, 0, none⟩) 1 1)).toList 0 (w2.alloc (.cells #[.string ⟨#[65]⟩] 9))
 have hrg := World.rangeAt_setCells_same (w2.alloc (.cells #[.string ⟨#[65]⟩] 9)) w.heap.size 0 (sigC (B.sigL nm role branch start size) (.slice (some ⟨w2.heap.size, 0, none⟩) 1 1)).toList HT.out
 rw [hw4] at hgr hrg
 have hz := HZ2.out
 have hstr : w4.heap[w2.heap.size]? = some (.cells #[.string ⟨#[65]⟩] 9 (0, 0)) := (hgr.block _ (by simp) (fun e => by have := Option.some.inj e; omega)).trans hsn
 have hbel : Below w.heap.size w w4 := (HB2.out.alloc HB2.out.size _).grown hgr (by simp; omega) (fun k hk => by cases hk; exact Nat.le_refl _)
 refine bodyPost_ret (v := .agg (sigC (B.sigL nm role branch start size) (.slice (some ⟨w2.heap.size, 0, none⟩) 1 1))) ?_ rfl ⟨w2.heap.size, rfl, Nat.le_of_lt hz, hstr, hbel⟩
 have hload := run_loadVar_mid (P := Tryz.prog) w4 w.heap.size 0 40 (sigC (B.sigL nm role branch start size) (.slice (some ⟨w2.heap.size, 0, none⟩) 1 1)).toList _ hrg Tryz.underlying40 rfl (by rw [infoN40]; rfl)
 exact results_cell Tryz.results39 (by rfl) hload

theorem RC.put {w : World} {b n : Nat} {T : TypeId} {C D : Array Value} (h : RC w b T n C) (k : Nat) (v : Value) (hD : D.size = n) (hd : ∀ j, j < n → D.getD j undef = if j = k then v else C.getD j undef) : RC (w.setCell ⟨b, k, none⟩ v) b T n D :=
 ⟨CellsAt.congr (CellsAt.set h.1 k v) (fun j hj => (hd j hj).symm), hD⟩

/-- the signals of the example, with their takers -/
def exP (b1 b2 b3 b4 : Nat) : List (B.Sig × Value) := [(B.sigL ⟨#[115]⟩ 1 0 0 2, .slice (some ⟨b1, 0, none⟩) 1 1), ({ B.sigL ⟨#[98]⟩ 2 3 4 4 with signed := true }, .slice (some ⟨b2, 0, none⟩) 1 1), ({ B.sigL ⟨#[99]⟩ 2 2 15 8 with moto := true }, .slice (some ⟨b3, 0, none⟩) 1 1), (B.sigL ⟨#[100]⟩ 0 0 2 1, .slice (some ⟨b4, 0, none⟩) 1 1)]
def exC (b1 b2 b3 b4 : Nat) : List Value := (sigC (B.sigL ⟨#[115]⟩ 1 0 0 2) (.slice (some ⟨b1, 0, none⟩) 1 1)).toList ++ ((sigC { B.sigL ⟨#[98]⟩ 2 3 4 4 with signed := true } (.slice (some ⟨b2, 0, none⟩) 1 1)).toList ++ ((sigC { B.sigL ⟨#[99]⟩ 2 2 15 8 with moto := true } (.slice (some ⟨b3, 0, none⟩) 1 1)).toList ++ (sigC (B.sigL ⟨#[100]⟩ 0 0 2 1) (.slice (some ⟨b4, 0, none⟩) 1 1)).toList))

theorem exC_at (b1 b2 b3 b4 : Nat) (i : Nat) (p : B.Sig × Value) (hp : (exP b1 b2 b3 b4)[i]? = some p) (j : Nat) (hj : j < 19) : (exC b1 b2 b3 b4)[i * 19 + j]? = (sigC p.1 p.2)[j]? := by
 have hl : ∀ s v, (sigC s v).toList.length = 19 := fun s v => rfl
 have hi : i < 4 := (List.getElem?_eq_some_iff.1 hp).1
 unfold exC
 match i, hi with
 | 0, _ =>
  obtain rfl := Option.some.inj hp
  rw [List.getElem?_append_left (by rw [hl]; omega), Nat.zero_mul, Nat.zero_add, Array.getElem?_toList]
 | 1, _ =>
  obtain rfl := Option.some.inj hp
  rw [List.getElem?_append_right (by rw [hl]; omega), hl, List.getElem?_append_left (by rw [hl]; omega), show 1 * 19 + j - 19 = j by omega, Array.getElem?_toList]
 | 2, _ =>
  obtain rfl := Option.some.inj hp
  rw [List.getElem?_append_right (by rw [hl]; omega), hl, List.getElem?_append_right (by rw [hl]; omega), hl, List.getElem?_append_left (by rw [hl]; omega), show 2 * 19 + j - 19 - 19 = j by omega, Array.getElem?_toList]
 | 3, _ =>
  obtain rfl := Option.some.inj hp
  rw [List.getElem?_append_right (by rw [hl]; omega), hl, List.getElem?_append_right (by rw [hl]; omega), hl, List.getElem?_append_right (by rw [hl]; omega), hl, show 3 * 19 + j - 19 - 19 - 19 = j by omega, Array.getElem?_toList]

/-- the example, with a list of signals of the call's own -/
def ExOut (w : World) (e : Ending) (w' : World) : Prop := ∃ g b1 b2 b3 b4, e = .returned (.agg (msgC B.exL (.slice (some ⟨g, 0, none⟩) 4 4))) ∧ OwnSg w' w.heap.size (some ⟨g, 0, none⟩) 4 4 (exP b1 b2 b3 b4) ∧ Below w.heap.size w w'

set_option maxRecDepth 100000 in
set_option maxHeartbeats 12800000 in
theorem example_any (w : World) : Calls Tryz.prog 28 #[] w (ExOut w) := by
 go_enter Tryz.func28, Tryz.ntmps28
 go_upto_region 1 with fail
 generalize hw0 : World.alloc _ _ = x0
 have hb0 : Below w.heap.size w x0 := by rw [← hw0]; exact (Below.refl _ _).alloc (Nat.le_refl _) _
 have ht0 : x0.there w.heap.size 0 8 := by rw [← hw0]; exact there_alloc _ _ _ (by rfl)
 have hz0 : w.heap.size < x0.heap.size := by rw [← hw0]; simp
 have HM0 : Hid (∃ C, x0.heap[w.heap.size]? = some (.cells C 27 (0, 0))) := Lib.hid ⟨_, by rw [← hw0]; exact heap_alloc_new _ _⟩
 have HT0 := Lib.hid ht0
 have HB0 := Lib.hid hb0
 have HZ0 := Lib.hid hz0
 clear hw0 hb0 ht0 hz0
 go_upto_region 2 with (first
  | (go_at_call 39; refine (signal_any _ _ _ _ _ _).mono ?_; rintro e v1 ⟨b1, rfl, hle1, hs1, hbv1⟩)
  | (refine wpList_store_mid (by rfl) 40 _ _ (by rfl) v1.heap.size 0 (sigC (B.sigL ⟨#[115]⟩ 1 0 0 2) (.slice (some ⟨b1, 0, none⟩) 1 1)) (by rfl) (by rfl) (there_alloc _ _ _ (by rfl)) (by rw [infoN40]; rfl) (ones_sig _ _ _ _) ?_; generalize hy1 : World.setCells _ _ _ _ = y1))
 have hby1 : Below v1.heap.size v1 y1 := by
  rw [← hy1]
  exact ((Below.refl _ _).alloc (Nat.le_refl _) _).grown (grownBy_setCells _ _ _ _) (by simp) (fun k hk => by cases hk; exact Nat.le_refl _)
 have hrow1 : RC y1 v1.heap.size 40 19 (sigC (B.sigL ⟨#[115]⟩ 1 0 0 2) (.slice (some ⟨b1, 0, none⟩) 1 1)) := by rw [← hy1]; exact RC.over _ _ _ _ (by rfl) rfl
 obtain ⟨K1, hK1⟩ : ∃ K, v1.heap.size = K := ⟨_, rfl⟩
 have hp1 : x0.heap.size ≤ K1 := by rw [← hK1]; exact hbv1.size
 rw [hK1] at hrow1 ⊢
 have hpy1 : Below x0.heap.size x0 y1 := hbv1.trans (hby1.mono hbv1.size)
 have HS1 : Hid (y1.heap[b1]? = some (.cells #[.string ⟨#[65]⟩] 9 (0, 0))) := Lib.hid ((hby1.block _ (lt_of_block hs1)).trans hs1)
 obtain ⟨x1, hx1⟩ : ∃ x, y1 = x := ⟨_, rfl⟩
 rw [hx1] at hrow1 hpy1 HS1 ⊢
 have HR1 := Lib.hid hrow1
 have HQ1 := Lib.hid hpy1
 have hstr1 := HS1
 clear hy1 hx1 hrow1 hpy1 hby1 hs1 hbv1 hK1 hle1 HS1
 go_upto_region 3 with (first
  | (go_at_call 39; refine (signal_any _ _ _ _ _ _).mono ?_; rintro e v2 ⟨b2, rfl, hle2, hs2, hbv2⟩)
  | (refine wpList_store_mid (by rfl) 40 _ _ (by rfl) v2.heap.size 0 (sigC (B.sigL ⟨#[98]⟩ 2 3 4 4) (.slice (some ⟨b2, 0, none⟩) 1 1)) (by rfl) (by rfl) (there_alloc _ _ _ (by rfl)) (by rw [infoN40]; rfl) (ones_sig _ _ _ _) ?_; generalize hy2 : World.setCells _ _ _ _ = y2))
 have hby2 : Below v2.heap.size v2 y2 := by
  rw [← hy2]
  exact ((Below.refl _ _).alloc (Nat.le_refl _) _).grown (grownBy_setCells _ _ _ _) (by simp) (fun k hk => by cases hk; exact Nat.le_refl _)
 have hrow2 : RC y2 v2.heap.size 40 19 (sigC (B.sigL ⟨#[98]⟩ 2 3 4 4) (.slice (some ⟨b2, 0, none⟩) 1 1)) := by rw [← hy2]; exact RC.over _ _ _ _ (by rfl) rfl
 obtain ⟨K2, hK2⟩ : ∃ K, v2.heap.size = K := ⟨_, rfl⟩
 have hp2 : x1.heap.size ≤ K2 := by rw [← hK2]; exact hbv2.size
 rw [hK2] at hrow2 ⊢
 have hpy2 : Below x1.heap.size x1 y2 := hbv2.trans (hby2.mono hbv2.size)
 have HS2 : Hid (y2.heap[b2]? = some (.cells #[.string ⟨#[65]⟩] 9 (0, 0))) := Lib.hid ((hby2.block _ (lt_of_block hs2)).trans hs2)
 have j2 : y2.cell? ⟨K2, 8, none⟩ = some (.bool false) := hrow2.cell (j := 8) rfl
 have f2 : y2.frozen? ⟨K2, 8, none⟩ = false := CellsAt.free hrow2.1 8
 have hput2 : RC (y2.setCell ⟨K2, 8, none⟩ (.bool true)) K2 40 19 (sigC { B.sigL ⟨#[98]⟩ 2 3 4 4 with signed := true } (.slice (some ⟨b2, 0, none⟩) 1 1)) := hrow2.put 8 _ rfl (fun j hj => by
  match j, hj with
  | 0, _ => rfl
  | 1, _ => rfl
  | 2, _ => rfl
  | 3, _ => rfl
  | 4, _ => rfl
  | 5, _ => rfl
  | 6, _ => rfl
  | 7, _ => rfl
  | 8, _ => rfl
  | 9, _ => rfl
  | 10, _ => rfl
  | 11, _ => rfl
  | 12, _ => rfl
  | 13, _ => rfl
  | 14, _ => rfl
  | 15, _ => rfl
  | 16, _ => rfl
  | 17, _ => rfl
  | 18, _ => rfl
  | n + 19, h => omega)
 have hq2 : Below x1.heap.size x1 (y2.setCell ⟨K2, 8, none⟩ (.bool true)) := hpy2.setCell hp2 _
 have hstr2 : Hid ((y2.setCell ⟨K2, 8, none⟩ (.bool true)).heap[b2]? = some (.cells #[.string ⟨#[65]⟩] 9 (0, 0))) := Lib.hid ((blk_other _ (show b2 ≠ K2 from fun e => by
  have h1 := HS2.out
  obtain ⟨C, h2, _⟩ := hrow2.1
  rw [e, h2] at h1
  injection h1 with h1
  injection h1 with _ hT _
  exact absurd hT (by decide))).trans HS2.out)
 clear hy2 hrow2 hpy2 hby2 hs2 hbv2 hK2 hle2 HS2
 go_upto_region 4 with fail
 obtain ⟨x2, hx2⟩ : ∃ x, y2.setCell ⟨K2, 8, none⟩ (.bool true) = x := ⟨_, rfl⟩
 rw [hx2] at hput2 hq2 hstr2 ⊢
 have HR2 := Lib.hid hput2
 have HQ2 := Lib.hid hq2
 clear j2 f2 hx2 hput2 hq2
 go_upto_region 5 with (first
  | (go_at_call 39; refine (signal_any _ _ _ _ _ _).mono ?_; rintro e v3 ⟨b3, rfl, hle3, hs3, hbv3⟩)
  | (refine wpList_store_mid (by rfl) 40 _ _ (by rfl) v3.heap.size 0 (sigC (B.sigL ⟨#[99]⟩ 2 2 15 8) (.slice (some ⟨b3, 0, none⟩) 1 1)) (by rfl) (by rfl) (there_alloc _ _ _ (by rfl)) (by rw [infoN40]; rfl) (ones_sig _ _ _ _) ?_; generalize hy3 : World.setCells _ _ _ _ = y3))
 have hby3 : Below v3.heap.size v3 y3 := by
  rw [← hy3]
  exact ((Below.refl _ _).alloc (Nat.le_refl _) _).grown (grownBy_setCells _ _ _ _) (by simp) (fun k hk => by cases hk; exact Nat.le_refl _)
 have hrow3 : RC y3 v3.heap.size 40 19 (sigC (B.sigL ⟨#[99]⟩ 2 2 15 8) (.slice (some ⟨b3, 0, none⟩) 1 1)) := by rw [← hy3]; exact RC.over _ _ _ _ (by rfl) rfl
 obtain ⟨K3, hK3⟩ : ∃ K, v3.heap.size = K := ⟨_, rfl⟩
 have hp3 : x2.heap.size ≤ K3 := by rw [← hK3]; exact hbv3.size
 rw [hK3] at hrow3 ⊢
 have hpy3 : Below x2.heap.size x2 y3 := hbv3.trans (hby3.mono hbv3.size)
 have HS3 : Hid (y3.heap[b3]? = some (.cells #[.string ⟨#[65]⟩] 9 (0, 0))) := Lib.hid ((hby3.block _ (lt_of_block hs3)).trans hs3)
 have j3 : y3.cell? ⟨K3, 7, none⟩ = some (.bool false) := hrow3.cell (j := 7) rfl
 have f3 : y3.frozen? ⟨K3, 7, none⟩ = false := CellsAt.free hrow3.1 7
 have hput3 : RC (y3.setCell ⟨K3, 7, none⟩ (.bool true)) K3 40 19 (sigC { B.sigL ⟨#[99]⟩ 2 2 15 8 with moto := true } (.slice (some ⟨b3, 0, none⟩) 1 1)) := hrow3.put 7 _ rfl (fun j hj => by
  match j, hj with
  | 0, _ => rfl
  | 1, _ => rfl
  | 2, _ => rfl
  | 3, _ => rfl
  | 4, _ => rfl
  | 5, _ => rfl
  | 6, _ => rfl
  | 7, _ => rfl
  | 8, _ => rfl
  | 9, _ => rfl
  | 10, _ => rfl
  | 11, _ => rfl
  | 12, _ => rfl
  | 13, _ => rfl
  | 14, _ => rfl
  | 15, _ => rfl
  | 16, _ => rfl
  | 17, _ => rfl
  | 18, _ => rfl
  | n + 19, h => omega)
 have hq3 : Below x2.heap.size x2 (y3.setCell ⟨K3, 7, none⟩ (.bool true)) := hpy3.setCell hp3 _
 have hstr3 : Hid ((y3.setCell ⟨K3, 7, none⟩ (.bool true)).heap[b3]? = some (.cells #[.string ⟨#[65]⟩] 9 (0, 0))) := Lib.hid ((blk_other _ (show b3 ≠ K3 from fun e => by
  have h1 := HS3.out
  obtain ⟨C, h2, _⟩ := hrow3.1
  rw [e, h2] at h1
  injection h1 with h1
  injection h1 with _ hT _
  exact absurd hT (by decide))).trans HS3.out)
 clear hy3 hrow3 hpy3 hby3 hs3 hbv3 hK3 hle3 HS3
 go_upto_region 6 with fail
 obtain ⟨x3, hx3⟩ : ∃ x, y3.setCell ⟨K3, 7, none⟩ (.bool true) = x := ⟨_, rfl⟩
 rw [hx3] at hput3 hq3 hstr3 ⊢
 have HR3 := Lib.hid hput3
 have HQ3 := Lib.hid hq3
 clear j3 f3 hx3 hput3 hq3
 go_upto_region 7 with (first
  | (go_at_call 39; refine (signal_any _ _ _ _ _ _).mono ?_; rintro e v4 ⟨b4, rfl, hle4, hs4, hbv4⟩)
  | (refine wpList_store_mid (by rfl) 40 _ _ (by rfl) v4.heap.size 0 (sigC (B.sigL ⟨#[100]⟩ 0 0 2 1) (.slice (some ⟨b4, 0, none⟩) 1 1)) (by rfl) (by rfl) (there_alloc _ _ _ (by rfl)) (by rw [infoN40]; rfl) (ones_sig _ _ _ _) ?_; generalize hy4 : World.setCells _ _ _ _ = y4))
 have hby4 : Below v4.heap.size v4 y4 := by
  rw [← hy4]
  exact ((Below.refl _ _).alloc (Nat.le_refl _) _).grown (grownBy_setCells _ _ _ _) (by simp) (fun k hk => by cases hk; exact Nat.le_refl _)
 have hrow4 : RC y4 v4.heap.size 40 19 (sigC (B.sigL ⟨#[100]⟩ 0 0 2 1) (.slice (some ⟨b4, 0, none⟩) 1 1)) := by rw [← hy4]; exact RC.over _ _ _ _ (by rfl) rfl
 obtain ⟨K4, hK4⟩ : ∃ K, v4.heap.size = K := ⟨_, rfl⟩
 have hp4 : x3.heap.size ≤ K4 := by rw [← hK4]; exact hbv4.size
 rw [hK4] at hrow4 ⊢
 have hpy4 : Below x3.heap.size x3 y4 := hbv4.trans (hby4.mono hbv4.size)
 have HS4 : Hid (y4.heap[b4]? = some (.cells #[.string ⟨#[65]⟩] 9 (0, 0))) := Lib.hid ((hby4.block _ (lt_of_block hs4)).trans hs4)
 obtain ⟨x4, hx4⟩ : ∃ x, y4 = x := ⟨_, rfl⟩
 rw [hx4] at hrow4 hpy4 HS4 ⊢
 have HR4 := Lib.hid hrow4
 have HQ4 := Lib.hid hpy4
 have hstr4 := HS4
 clear hy4 hx4 hrow4 hpy4 hby4 hs4 hbv4 hK4 hle4 HS4
 have z1 := HR1.out.blk
 have z2 := HR2.out.blk
 have z3 := HR3.out.blk
 have z4 := HR4.out.blk
 have r1 := RC.range (((HR1.out.below HQ2.out z1).below HQ3.out (Nat.lt_of_lt_of_le z1 HQ2.out.size)).below HQ4.out (Nat.lt_of_lt_of_le z1 (Nat.le_trans HQ2.out.size HQ3.out.size)))
 have r2 := RC.range ((HR2.out.below HQ3.out z2).below HQ4.out (Nat.lt_of_lt_of_le z2 HQ3.out.size))
 have r3 := RC.range (HR3.out.below HQ4.out z3)
 have r4 := RC.range HR4.out
 have u1 := lt_of_block hstr1.out
 have u2 := lt_of_block hstr2.out
 have u3 := lt_of_block hstr3.out
 have HS1 : Hid (x4.heap[b1]? = some (.cells #[.string ⟨#[65]⟩] 9 (0, 0))) := Lib.hid ((HQ4.out.block _ (Nat.lt_of_lt_of_le u1 (Nat.le_trans HQ2.out.size HQ3.out.size))).trans ((HQ3.out.block _ (Nat.lt_of_lt_of_le u1 HQ2.out.size)).trans ((HQ2.out.block _ u1).trans hstr1.out)))
 have HS2 : Hid (x4.heap[b2]? = some (.cells #[.string ⟨#[65]⟩] 9 (0, 0))) := Lib.hid ((HQ4.out.block _ (Nat.lt_of_lt_of_le u2 HQ3.out.size)).trans ((HQ3.out.block _ u2).trans hstr2.out))
 have HS3 : Hid (x4.heap[b3]? = some (.cells #[.string ⟨#[65]⟩] 9 (0, 0))) := Lib.hid ((HQ4.out.block _ u3).trans hstr3.out)
 have hb04 : Below x0.heap.size x0 x4 := HQ1.out.trans ((HQ2.out.mono HQ1.out.size).trans ((HQ3.out.mono (Nat.le_trans HQ1.out.size HQ2.out.size)).trans (HQ4.out.mono (Nat.le_trans HQ1.out.size (Nat.le_trans HQ2.out.size HQ3.out.size)))))
 have HB4 : Hid (Below w.heap.size w x4) := Lib.hid (HB0.out.trans (hb04.mono HB0.out.size))
 have HZ4 : Hid (w.heap.size < x4.heap.size) := Lib.hid (Nat.lt_of_lt_of_le HZ0.out hb04.size)
 have ht4 : x4.there w.heap.size 0 8 := fun j hj => by
  have h := HT0.out j hj
  have hblk := hb04.block _ HZ0.out
  exact ⟨by rw [World.cell?_of_block (a := ⟨w.heap.size, 0 + j, none⟩) hblk]; exact h.1, by rw [World.frozen?_of_block (a := ⟨w.heap.size, 0 + j, none⟩) hblk]; exact h.2⟩
 have HT4 := Lib.hid ht4
 have HM4 : Hid (∃ C, x4.heap[w.heap.size]? = some (.cells C 27 (0, 0))) := Lib.hid (by obtain ⟨C, hC⟩ := HM0.out; exact ⟨C, (hb04.block _ HZ0.out).trans hC⟩)
 clear z1 z2 z3 z4 u1 u2 u3 hb04 ht4 HT0 HB0 HZ0
 go_wp2_with (first
  | refine wpList_load_mid (by rfl) 40 _ (by rfl) K1 0 (by rfl) (#[.int .i64 0, .int .i64 0, .string ⟨#[115]⟩, .int .i64 1, .int .u64 0, .int .i64 0, .int .i64 2, .bool false, .bool false, .int .i64 1, .int .i64 1, .int .i64 0, .int .i64 1, .int .i64 0, .int .i64 1, .int .i64 0, .int .i64 1, .string ⟨#[]⟩, .slice (some ⟨b1, 0, none⟩) 1 1] : Array Value).toList _ r1 Tryz.underlying40 (by rfl) (by rw [infoN40]; rfl) ?_
  | refine wpList_load_mid (by rfl) 40 _ (by rfl) K2 0 (by rfl) (#[.int .i64 0, .int .i64 0, .string ⟨#[98]⟩, .int .i64 2, .int .u64 3, .int .i64 4, .int .i64 4, .bool false, .bool true, .int .i64 1, .int .i64 1, .int .i64 0, .int .i64 1, .int .i64 0, .int .i64 1, .int .i64 0, .int .i64 1, .string ⟨#[]⟩, .slice (some ⟨b2, 0, none⟩) 1 1] : Array Value).toList _ r2 Tryz.underlying40 (by rfl) (by rw [infoN40]; rfl) ?_
  | refine wpList_load_mid (by rfl) 40 _ (by rfl) K3 0 (by rfl) (#[.int .i64 0, .int .i64 0, .string ⟨#[99]⟩, .int .i64 2, .int .u64 2, .int .i64 15, .int .i64 8, .bool true, .bool false, .int .i64 1, .int .i64 1, .int .i64 0, .int .i64 1, .int .i64 0, .int .i64 1, .int .i64 0, .int .i64 1, .string ⟨#[]⟩, .slice (some ⟨b3, 0, none⟩) 1 1] : Array Value).toList _ r3 Tryz.underlying40 (by rfl) (by rw [infoN40]; rfl) ?_
  | refine wpList_load_mid (by rfl) 40 _ (by rfl) K4 0 (by rfl) (#[.int .i64 0, .int .i64 0, .string ⟨#[100]⟩, .int .i64 0, .int .u64 0, .int .i64 2, .int .i64 1, .bool false, .bool false, .int .i64 1, .int .i64 1, .int .i64 0, .int .i64 1, .int .i64 0, .int .i64 1, .int .i64 0, .int .i64 1, .string ⟨#[]⟩, .slice (some ⟨b4, 0, none⟩) 1 1] : Array Value).toList _ r4 Tryz.underlying40 (by rfl) (by rw [infoN40]; rfl) ?_
  | (refine wpList_store_mid (by rfl) 27 _ _ (by rfl) w.heap.size 0 (msgC B.exL (.slice (some ⟨x4.heap.size, 0, none⟩) 4 4)) (by rfl) (by rfl) (World.there_alloc HT4.out _) (by kernel_rfl) (by simp [msgC, Value.oneCell']) ?_; generalize hw5 : World.setCells _ _ _ _ = w5))
 have hsn := heap_alloc_new x4 (.cells #[.int .i64 0, .int .i64 0, .string ⟨#[115]⟩, .int .i64 1, .int .u64 0, .int .i64 0, .int .i64 2, .bool false, .bool false, .int .i64 1, .int .i64 1, .int .i64 0, .int .i64 1, .int .i64 0, .int .i64 1, .int .i64 0, .int .i64 1, .string ⟨#[]⟩, .slice (some ⟨b1, 0, none⟩) 1 1, .int .i64 0, .int .i64 0, .string ⟨#[98]⟩, .int .i64 2, .int .u64 3, .int .i64 4, .int .i64 4, .bool false, .bool true, .int .i64 1, .int .i64 1, .int .i64 0, .int .i64 1, .int .i64 0, .int .i64 1, .int .i64 0, .int .i64 1, .string ⟨#[]⟩, .slice (some ⟨b2, 0, none⟩) 1 1, .int .i64 0, .int .i64 0, .string ⟨#[99]⟩, .int .i64 2, .int .u64 2, .int .i64 15, .int .i64 8, .bool true, .bool false, .int .i64 1, .int .i64 1, .int .i64 0, .int .i64 1, .int .i64 0, .int .i64 1, .int .i64 0, .int .i64 1, .string ⟨#[]⟩, .slice (some ⟨b3, 0, none⟩) 1 1, .int .i64 0, .int .i64 0, .string ⟨#[100]⟩, .int .i64 0, .int .u64 0, .int .i64 2, .int .i64 1, .bool false, .bool false, .int .i64 1, .int .i64 1, .int .i64 0, .int .i64 1, .int .i64 0, .int .i64 1, .int .i64 0, .int .i64 1, .string ⟨#[]⟩, .slice (some ⟨b4, 0, none⟩) 1 1] 40)
 have hgr := grownBy_setCells w.heap.size (msgC B.exL (.slice (some ⟨x4.heap.size, 0, none⟩) 4 4)).toList 0 (x4.alloc (.cells #[.int .i64 0, .int .i64 0, .string ⟨#[115]⟩, .int .i64 1, .int .u64 0, .int .i64 0, .int .i64 2, .bool false, .bool false, .int .i64 1, .int .i64 1, .int .i64 0, .int .i64 1, .int .i64 0, .int .i64 1, .int .i64 0, .int .i64 1, .string ⟨#[]⟩, .slice (some ⟨b1, 0, none⟩) 1 1, .int .i64 0, .int .i64 0, .string ⟨#[98]⟩, .int .i64 2, .int .u64 3, .int .i64 4, .int .i64 4, .bool false, .bool true, .int .i64 1, .int .i64 1, .int .i64 0, .int .i64 1, .int .i64 0, .int .i64 1, .int .i64 0, .int .i64 1, .string ⟨#[]⟩, .slice (some ⟨b2, 0, none⟩) 1 1, .int .i64 0, .int .i64 0, .string ⟨#[99]⟩, .int .i64 2, .int .u64 2, .int .i64 15, .int .i64 8, .bool true, .bool false, .int .i64 1, .int .i64 1, .int .i64 0, .int .i64 1, .int .i64 0, .int .i64 1, .int .i64 0, .int .i64 1, .string ⟨#[]⟩, .slice (some ⟨b3, 0, none⟩) 1 1, .int .i64 0, .int .i64 0, .string ⟨#[100]⟩, .int .i64 0, .int .u64 0, .int .i64 2, .int .i64 1, .bool false, .bool false, .int .i64 1, .int .i64 1, .int .i64 0, .int .i64 1, .int .i64 0, .int .i64 1, .int .i64 0, .int .i64 1, .string ⟨#[]⟩, .slice (some ⟨b4, 0, none⟩) 1 1] 40))
 have hrg := World.rangeAt_setCells_same (x4.alloc (.cells #[.int .i64 0, .int .i64 0, .string ⟨#[115]⟩, .int .i64 1, .int .u64 0, .int .i64 0, .int .i64 2, .bool false, .bool false, .int .i64 1, .int .i64 1, .int .i64 0, .int .i64 1, .int .i64 0, .int .i64 1, .int .i64 0, .int .i64 1, .string ⟨#[]⟩, .slice (some ⟨b1, 0, none⟩) 1 1, .int .i64 0, .int .i64 0, .string ⟨#[98]⟩, .int .i64 2, .int .u64 3, .int .i64 4, .int .i64 4, .bool false, .bool true, .int .i64 1, .int .i64 1, .int .i64 0, .int .i64 1, .int .i64 0, .int .i64 1, .int .i64 0, .int .i64 1, .string ⟨#[]⟩, .slice (some ⟨b2, 0, none⟩) 1 1, .int .i64 0, .int .i64 0, .string ⟨#[99]⟩, .int .i64 2, .int .u64 2, .int .i64 15, .int .i64 8, .bool true, .bool false, .int .i64 1, .int .i64 1, .int .i64 0, .int .i64 1, .int .i64 0, .int .i64 1, .int .i64 0, .int .i64 1, .string ⟨#[]⟩, .slice (some ⟨b3, 0, none⟩) 1 1, .int .i64 0, .int .i64 0, .string ⟨#[100]⟩, .int .i64 0, .int .u64 0, .int .i64 2, .int .i64 1, .bool false, .bool false, .int .i64 1, .int .i64 1, .int .i64 0, .int .i64 1, .int .i64 0, .int .i64 1, .int .i64 0, .int .i64 1, .string ⟨#[]⟩, .slice (some ⟨b4, 0, none⟩) 1 1] 40)) w.heap.size 0 (msgC B.exL (.slice (some ⟨x4.heap.size, 0, none⟩) 4 4)).toList (World.there_alloc HT4.out _)
 rw [hw5] at hgr hrg
 have hz := HZ4.out
 have hbel : Below w.heap.size w w5 := (HB4.out.alloc HB4.out.size _).grown hgr (by simp; omega) (fun k hk => by cases hk; exact Nat.le_refl _)
 have hrow5 : w5.heap[x4.heap.size]? = some (.cells #[.int .i64 0, .int .i64 0, .string ⟨#[115]⟩, .int .i64 1, .int .u64 0, .int .i64 0, .int .i64 2, .bool false, .bool false, .int .i64 1, .int .i64 1, .int .i64 0, .int .i64 1, .int .i64 0, .int .i64 1, .int .i64 0, .int .i64 1, .string ⟨#[]⟩, .slice (some ⟨b1, 0, none⟩) 1 1, .int .i64 0, .int .i64 0, .string ⟨#[98]⟩, .int .i64 2, .int .u64 3, .int .i64 4, .int .i64 4, .bool false, .bool true, .int .i64 1, .int .i64 1, .int .i64 0, .int .i64 1, .int .i64 0, .int .i64 1, .int .i64 0, .int .i64 1, .string ⟨#[]⟩, .slice (some ⟨b2, 0, none⟩) 1 1, .int .i64 0, .int .i64 0, .string ⟨#[99]⟩, .int .i64 2, .int .u64 2, .int .i64 15, .int .i64 8, .bool true, .bool false, .int .i64 1, .int .i64 1, .int .i64 0, .int .i64 1, .int .i64 0, .int .i64 1, .int .i64 0, .int .i64 1, .string ⟨#[]⟩, .slice (some ⟨b3, 0, none⟩) 1 1, .int .i64 0, .int .i64 0, .string ⟨#[100]⟩, .int .i64 0, .int .u64 0, .int .i64 2, .int .i64 1, .bool false, .bool false, .int .i64 1, .int .i64 1, .int .i64 0, .int .i64 1, .int .i64 0, .int .i64 1, .int .i64 0, .int .i64 1, .string ⟨#[]⟩, .slice (some ⟨b4, 0, none⟩) 1 1] 40 (0, 0)) := (hgr.block _ (by simp) (fun e => by have := Option.some.inj e; omega)).trans hsn
 have hst : ∀ (b : Nat), x4.heap[b]? = some (.cells #[.string ⟨#[65]⟩] 9 (0, 0)) → w5.heap[b]? = some (.cells #[.string ⟨#[65]⟩] 9 (0, 0)) := fun b hb => by
  have hlt := lt_of_block hb
  have hq : (x4.alloc (.cells #[.int .i64 0, .int .i64 0, .string ⟨#[115]⟩, .int .i64 1, .int .u64 0, .int .i64 0, .int .i64 2, .bool false, .bool false, .int .i64 1, .int .i64 1, .int .i64 0, .int .i64 1, .int .i64 0, .int .i64 1, .int .i64 0, .int .i64 1, .string ⟨#[]⟩, .slice (some ⟨b1, 0, none⟩) 1 1, .int .i64 0, .int .i64 0, .string ⟨#[98]⟩, .int .i64 2, .int .u64 3, .int .i64 4, .int .i64 4, .bool false, .bool true, .int .i64 1, .int .i64 1, .int .i64 0, .int .i64 1, .int .i64 0, .int .i64 1, .int .i64 0, .int .i64 1, .string ⟨#[]⟩, .slice (some ⟨b2, 0, none⟩) 1 1, .int .i64 0, .int .i64 0, .string ⟨#[99]⟩, .int .i64 2, .int .u64 2, .int .i64 15, .int .i64 8, .bool true, .bool false, .int .i64 1, .int .i64 1, .int .i64 0, .int .i64 1, .int .i64 0, .int .i64 1, .int .i64 0, .int .i64 1, .string ⟨#[]⟩, .slice (some ⟨b3, 0, none⟩) 1 1, .int .i64 0, .int .i64 0, .string ⟨#[100]⟩, .int .i64 0, .int .u64 0, .int .i64 2, .int .i64 1, .bool false, .bool false, .int .i64 1, .int .i64 1, .int .i64 0, .int .i64 1, .int .i64 0, .int .i64 1, .int .i64 0, .int .i64 1, .string ⟨#[]⟩, .slice (some ⟨b4, 0, none⟩) 1 1] 40)).heap[b]? = some (.cells #[.string ⟨#[65]⟩] 9 (0, 0)) := (Below.heap_alloc _ _ _ hlt).trans hb
  refine (hgr.block b (lt_of_block hq) (fun e => ?_)).trans hq
  obtain rfl := Option.some.inj e
  obtain ⟨C, hC⟩ := HM4.out
  rw [hC] at hb
  injection hb with hb
  injection hb with _ hT _
  exact absurd hT (by decide)
 refine bodyPost_ret (v := .agg (msgC B.exL (.slice (some ⟨x4.heap.size, 0, none⟩) 4 4))) ?_ rfl ⟨x4.heap.size, b1, b2, b3, b4, rfl, ⟨rfl, ⟨exC b1 b2 b3 b4, ⟨rfl, .inr ⟨x4.heap.size, 4, _, rfl, Nat.le_of_lt hz, hrow5, Nat.le_refl _, by decide, rfl, rfl⟩⟩, exC_at b1 b2 b3 b4⟩, fun p hp => ?_⟩, hbel⟩
 ·have hload := run_loadVar_mid (P := Tryz.prog) w5 w.heap.size 0 27 (msgC B.exL (.slice (some ⟨x4.heap.size, 0, none⟩) 4 4)).toList _ hrg Tryz.underlying27 rfl (by kernel_rfl)
  exact results_cell Tryz.results28 (by rfl) hload
 ·simp only [exP, List.mem_cons, List.not_mem_nil, or_false] at hp
  rcases hp with rfl | rfl | rfl | rfl
  ·exact toAt_one (hst _ HS1.out)
  ·exact toAt_one (hst _ HS2.out)
  ·exact toAt_one (hst _ HS3.out)
  ·exact toAt_one (hst _ hstr4.out)

end Code
end Go.Proofs.YtdpjbnjlognmeaaGreatDoor
