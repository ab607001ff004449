/- Package fold: what is known behind an instruction. -/
import Derived.Test.YtegjeincncccaaaGreatDoorFlB
import Derived.Test.YtegjeincncccaaaGreatDoorApp
namespace Go.Proofs.YtegjeincncccaaaGreatDoor
open Go.RowKit Go.Maps

namespace Code

set_option maxRecDepth 100000 in
set_option maxHeartbeats 3200000 in
theorem after_any (x : B.Ins) (b n : Nat) (K : B.Kn) (w : World) (ha : B.In64 x.a) (hi : B.InU64 x.imm) (h : KnAt w b n K) (hn : n < 100000) :
    Calls Tryz.prog 55 #[.agg #[.int .i64 x.op, .int .i64 x.a, .int .i64 x.b, .int .i64 x.n, .int .u64 x.imm], .map (some b)] w (fun e w' => ∃ g, e = .returned (.map (some g)) ∧ w.heap.size ≤ g ∧ KnAt w' g (n + 1) (x.afterK K) ∧ Below w.heap.size w w') := by
 have hb := h.lt
 have hbx := insAt_new x w
 have HC := Lib.hid (KnAt.clone (h.kept (World.grownBy_alloc w (.cells #[.int .i64 x.op, .int .i64 x.a, .int .i64 x.b, .int .i64 x.n, .int .u64 x.imm] 24) none) (by simp)))
 have HB : Hid (Below w.heap.size w (w.alloc (.cells #[.int .i64 x.op, .int .i64 x.a, .int .i64 x.b, .int .i64 x.n, .int .u64 x.imm] 24))) := Lib.hid ((Below.refl _ _).alloc (Nat.le_refl _) _)
 have hs : (w.alloc (.cells #[.int .i64 x.op, .int .i64 x.a, .int .i64 x.b, .int .i64 x.n, .int .u64 x.imm] 24)).heap.size = w.heap.size + 1 := by simp
 have HS := Lib.hid hs
 have HA := Lib.hid ha
 have HI := Lib.hid hi
 have HBX := Lib.hid hbx
 clear h ha hi hbx hs
 go_enter Tryz.func55, Tryz.ntmps55
 go_wp2_with fail
 refine HC.out.mono ?_
 rintro e w1 ⟨rfl, hk, hb1⟩
 have HK := Lib.hid hk
 have HB1 := Lib.hid (HB.out.trans (hb1.mono HB.out.size))
 obtain ⟨c0, c1, c2, c3, c4⟩ := HBX.out.below hb1 (by rw [HS.out]; omega)
 simp only [Nat.zero_add] at c1 c2 c3 c4
 clear hk hb1 HC
 have hk := HK.out
 rw [HS.out] at hk
 obtain ⟨D, ho, hd⟩ := hk
 have HD := Lib.hid hd
 clear hd
 have HG : Hid (∀ W, w1.grownBy W (some (w.heap.size + 1)) → Below w.heap.size w W) := Lib.hid (fun W hg => HB1.out.grown hg HB1.out.size (fun k hk => by have := Option.some.inj hk; omega))
 go_wp2_with fail
 refine (fwrites_any x.op w1).mono ?_
 rintro e w2 ⟨rfl, rfl⟩
 have hww : x.isW = wrF x.op := rfl
 by_cases ho1 : x.op = 1
 ·have hwr : wrF x.op = true := by rw [ho1]; rfl
  have HE : Hid (x.afterK K = setK (delK K x.a) x.a x.imm.toNat) := Lib.hid (by
   funext r
   unfold B.Ins.afterK setK delK
   rw [hww, hwr]
   by_cases e : x.a = r
   ·subst e; simp [ho1]
   ·simp [e, Ne.symm e])
  rw [hwr]
  have o1 : (x.op == 1) = true := by simp [ho1]
  clear hwr hww
  have hnm : n < maxLen := Nat.lt_of_lt_of_le hn (by decide)
  go_wp2_with (first | (at_delete; refine wpList_delete_own _ rfl _ _ 97 3 rfl 22 keyInt Tryz.underlying97 _ (w.heap.size + 1) n D rfl ho _ _ rfl (key_int HA.out) ?_; intro w3 ho3 ht3; have d0 := ht3.grown.cell c0 (fun e => by have := Option.some.inj e; simp at this); have d1 := ht3.grown.cell c1 (fun e => by have := Option.some.inj e; simp at this); have d4 := ht3.grown.cell c4 (fun e => by have := Option.some.inj e; simp at this)) | (at_mapUpdate; refine wpList_mapUpdate_own _ rfl _ _ _ 97 rfl 3 22 keyInt Tryz.underlying97 _ (w.heap.size + 1) n _ rfl ho3 hnm _ _ (.int .i64 x.a) rfl rfl (key_int HA.out) (.lit (.int .u64 x.imm)) [] (plainElem_int Tryz.underlying22 (wf_u64 HI.out)) ?_; intro w4 ho4 hg4))
  go_ret
  have hp := (HD.out.del x.a).put ho3.isMap x.a x.imm.toNat
  rw [Int.toNat_of_nonneg HI.out.1, ← HE.out] at hp
  exact ⟨_, rfl, by omega, ⟨_, ho4, hp⟩, HG.out _ (ht3.grown.trans hg4)⟩
 ·have o1 : (x.op == 1) = false := by simp [ho1]
  cases hwr : wrF x.op with
  | true =>
   have HE : Hid (x.afterK K = delK K x.a) := Lib.hid (by
    funext r
    unfold B.Ins.afterK delK
    rw [hww, hwr]
    by_cases e : x.a = r
    ·subst e; simp [ho1]
    ·simp [e, Ne.symm e])
   clear hww hwr
   go_wp2_with (at_delete; refine wpList_delete_own _ rfl _ _ 97 3 rfl 22 keyInt Tryz.underlying97 _ (w.heap.size + 1) n D rfl ho _ _ rfl (key_int HA.out) ?_; intro w3 ho3 ht3; have d0 := ht3.grown.cell c0 (fun e => by have := Option.some.inj e; simp at this); have d1 := ht3.grown.cell c1 (fun e => by have := Option.some.inj e; simp at this); have d4 := ht3.grown.cell c4 (fun e => by have := Option.some.inj e; simp at this))
   go_ret
   exact ⟨_, rfl, by omega, KnAt.mono ⟨_, ho3, by rw [HE.out]; exact HD.out.del _⟩ (by omega), HG.out _ ht3.grown⟩
  | false =>
   have HE : Hid (x.afterK K = K) := Lib.hid (by
    funext r
    unfold B.Ins.afterK
    rw [hww, hwr]
    simp)
   clear hww hwr
   go_wp2_with fail
   go_ret
   exact ⟨_, rfl, by omega, KnAt.mono ⟨_, ho, by rw [HE.out]; exact HD.out⟩ (by omega), HB1.out⟩

end Code
end Go.Proofs.YtegjeincncccaaaGreatDoor
