/- Package fold: what both know. -/
import Derived.Test.YtegjeincncccaaaGreatDoorFlA
import Derived.Test.YtegjeincncccaaaGreatDoorOpen
namespace Go.Proofs.YtegjeincncccaaaGreatDoor
open Go.RowKit Go.Maps

namespace Code

theorem key_int_inv {key : Value} {kl : Lit} (h : keyOf Tryz.prog 3 key = some kl) : ∃ r, B.In64 r ∧ key = .int .i64 r ∧ kl = .int .i64 r := by
 cases key <;> simp [keyOf, Tryz.underlying3, mapKey] at h
 obtain ⟨⟨rfl, hw⟩, rfl⟩ := h
 exact ⟨_, wf_i64_in hw, rfl, rfl⟩

theorem delKn_any (b n b2 n2 X : Nat) (K K2 : B.Kn) (w : World) (h : KnAt w b n K) (h2 : KnAt w b2 n2 K2) (hc : w.cell? ⟨X, 0, none⟩ = some (.map (some b2))) (h12 : b2 ≠ b) (hX : X ≠ b) :
    Calls Tryz.prog 107 #[.map (some b), .func (.func 108) #[] #[.pointer (some ⟨X, 0, none⟩)]] w (fun e w' => e = .returned (.tuple #[]) ∧ KnAt w' b n (B.meetK (some K) K2) ∧ w.grownBy w' (some b)) := by
 obtain ⟨D, ho, hd⟩ := h
 have eg : ∀ args w, (callFunc 108 args).run Tryz.prog w = .ok (.enter 108 args) w := enters_of Tryz.func108 (by kernel_rfl) rfl
 refine (AnyDf.maps_DeleteFunc Tryz.delKn keyInt (plainElem Tryz.prog 22) (strikes K2) 108 _ b n D w eg ho (fun W key val kl yd yp hgW hk hv => ?_)).mono ?_
 ·obtain ⟨r, hr, rfl, rfl⟩ := key_int_inv hk
  obtain ⟨c, rfl, hy, hw⟩ := plainElem_int_inv Tryz.underlying22 hv
  obtain rfl : yd = .lit (.int .u64 c) := congrArg Prod.fst hy
  exact meet1_any X b2 n2 K2 r c W hr (wf_u64_in hw) (hgW.cell hc (fun e => hX (Option.some.inj e))) (h2.kept hgW (fun e => h12 (Option.some.inj e)))
 ·rintro e w' ⟨rfl, h1, hg⟩
  exact ⟨rfl, ⟨_, h1, hd.meet (ho.tidy keyInt) K2⟩, hg⟩

set_option maxRecDepth 100000 in
set_option maxHeartbeats 1600000 in
/-- nothing is known yet: the other is copied -/
theorem meet_nil (b2 n2 : Nat) (K2 : B.Kn) (w : World) (h2 : KnAt w b2 n2 K2) :
    Calls Tryz.prog 56 #[.map none, .map (some b2)] w (fun e w' => ∃ g, e = .returned (.map (some g)) ∧ w.heap.size ≤ g ∧ KnAt w' g n2 (B.meetK none K2) ∧ Below w.heap.size w w') := by
 have hb := h2.lt
 have hc : (w.alloc (.cells #[.map (some b2)] 97)).cell? ⟨w.heap.size, 0, none⟩ = some (.map (some b2)) := by rw [World.cell?_alloc_at _ _ _ _ (by simp)]; rfl
 have HC := Lib.hid (KnAt.clone (h2.kept (World.grownBy_alloc w (.cells #[.map (some b2)] 97) none) (by simp)))
 have HB : Hid (Below w.heap.size w (w.alloc (.cells #[.map (some b2)] 97))) := Lib.hid ((Below.refl _ _).alloc (Nat.le_refl _) _)
 have hq := fun w => run_eql_map_nil_sl (P := Tryz.prog) w 97 _ _ none Tryz.underlying97
 clear h2
 go_enter Tryz.func56, Tryz.ntmps56
 go_wp2_with fail
 refine HC.out.mono ?_
 rintro e w1 ⟨rfl, hk, hb1⟩
 have HK := Lib.hid hk
 have HB1 := Lib.hid (HB.out.trans (hb1.mono HB.out.size))
 clear hk hb1 HC
 go_wp2_with fail
 go_ret
 have hsz : (w.alloc (.cells #[.map (some b2)] 97)).heap.size = w.heap.size + 1 := by simp
 have hk := HK.out
 rw [hsz] at hk
 exact ⟨_, rfl, by omega, hk, HB1.out⟩

set_option maxRecDepth 100000 in
set_option maxHeartbeats 1600000 in
/-- .. and where something is known, what the other does not know is struck -/
theorem meet_some (b n b2 n2 : Nat) (K K2 : B.Kn) (w : World) (h : KnAt w b n K) (h2 : KnAt w b2 n2 K2) (h12 : b2 ≠ b) :
    Calls Tryz.prog 56 #[.map (some b), .map (some b2)] w (fun e w' => e = .returned (.map (some b)) ∧ KnAt w' b n (B.meetK (some K) K2) ∧ w.grownBy w' (some b)) := by
 have hb := h.lt
 have hb2 := h2.lt
 have hc : (w.alloc (.cells #[.map (some b2)] 97)).cell? ⟨w.heap.size, 0, none⟩ = some (.map (some b2)) := by rw [World.cell?_alloc_at _ _ _ _ (by simp)]; rfl
 have HD := Lib.hid (delKn_any b n b2 n2 w.heap.size K K2 _ (h.kept (World.grownBy_alloc w (.cells #[.map (some b2)] 97) none) (by simp)) (h2.kept (World.grownBy_alloc w (.cells #[.map (some b2)] 97) none) (by simp)) hc h12 (by omega))
 have hq := fun w => run_eql_map_nil_sl (P := Tryz.prog) w 97 _ _ (some b) Tryz.underlying97
 clear h h2 hc
 go_enter Tryz.func56, Tryz.ntmps56
 go_wp2_with fail
 refine HD.out.mono ?_
 rintro e w1 ⟨rfl, hk, hg⟩
 have HK := Lib.hid hk
 have HG := Lib.hid ((World.grownBy_alloc w _ (some b)).trans hg)
 clear hk hg HD
 go_wp2_with fail
 go_ret
 exact ⟨rfl, HK.out, HG.out⟩

end Code
end Go.Proofs.YtegjeincncccaaaGreatDoor
