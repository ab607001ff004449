/- Package verify: what an instruction reads and touches. -/
import Derived.Test.YtgjeifcmgfmgeaaGreatDoorVerA
namespace Go.Proofs.YtgjeifcmgfmgeaaGreatDoor
open Go.RowKit

namespace Code

attribute [local go_sem ↓] Go.wp_at_zero Go.wp_at_succ

/-- a function of the program enters -/
def En (f : Nat) : Prop := ∀ (args : Array Value) (w : World), (callFunc f args).run Tryz.prog w = .ok (.enter f args) w

theorem en_rd (o : Int) : En (rdFn o) := by
 unfold rdFn
 repeat' split
 ·exact enters_of Tryz.func160 (by kernel_rfl) rfl
 ·exact enters_of Tryz.func161 (by kernel_rfl) rfl
 ·exact enters_of Tryz.func162 (by kernel_rfl) rfl
 ·exact enters_of Tryz.func158 (by kernel_rfl) rfl

theorem en_tc (o : Int) : En (tcFn o) := by
 unfold tcFn
 repeat' split
 ·exact enters_of Tryz.func163 (by kernel_rfl) rfl
 ·exact enters_of Tryz.func164 (by kernel_rfl) rfl
 ·exact enters_of Tryz.func165 (by kernel_rfl) rfl
 ·exact enters_of Tryz.func159 (by kernel_rfl) rfl

theorem nothing_any (x : B.Ins) (w : World) : Calls Tryz.prog 158 #[valI x] w fun e w' => e = .returned (.int .u16 0) ∧ Below w.heap.size w w' := by
 unfold valI
 go_enter Tryz.func158, Tryz.ntmps158
 go_wp2
 go_ret
 exact ⟨rfl, (Below.refl _ _).alloc (Nat.le_refl _) _⟩

theorem vof_top (vs : List Int) (b n cap : Nat) (t : TypeId) (w : World) (hb : b = w.heap.size) (hn : n = vs.length) (hn4 : n ≤ 4) (hv : ∀ v ∈ vs, 0 ≤ v ∧ v ≤ 15) :
    Calls Tryz.prog 137 #[.slice (some ⟨b, 0, none⟩) n cap] (w.alloc (.cells (vs.map (Value.int .i64)).toArray t)) fun e w' => e = .returned (.int .u16 (ors (vs.map Int.toNat))) ∧ w' = w.alloc (.cells (vs.map (Value.int .i64)).toArray t) := by
 subst hb
 refine vof_any _ n cap (vs.map Int.toNat) _ (by simp [hn]) hn4 ?_ ?_
 ·intro r hr
  obtain ⟨v, hm, rfl⟩ := List.mem_map.1 hr
  have := hv v hm
  omega
 ·intro j r hj
  rw [cell_of_row _ _ _ _ _ _ (heap_alloc_new w _)]
  rw [List.getElem?_map] at hj
  cases hvj : vs[j]? with
  | none => rw [hvj] at hj; cases hj
  | some v =>
   rw [hvj] at hj
   simp at hj
   subst hj
   have := hv v (List.mem_of_getElem? hvj)
   simp [hvj]
   omega

theorem readA_any (x : B.Ins) (w : World) (h0 : 0 ≤ x.a) (h15 : x.a ≤ 15) : Calls Tryz.prog 162 #[valI x] w fun e w' => e = .returned (.int .u16 ((2 ^ x.a.toNat : Nat) : Int)) ∧ Below w.heap.size w w' := by
 unfold valI
 go_enter Tryz.func162, Tryz.ntmps162
 go_wp2_with fail
 refine (vof_top [x.a] _ 1 1 3 (w.alloc _) ?h1 rfl (by omega) ?h2).mono ?_
 case h1 => simp
 case h2 => simp; omega
 rintro e w1 ⟨rfl, rfl⟩
 go_wp2
 go_ret
 refine ⟨ret_int ?_, ((Below.refl _ _).alloc (Nat.le_refl _) _).alloc (by simp) _⟩
 simp [ors]

theorem readB_any (x : B.Ins) (w : World) (h0 : 0 ≤ x.b) (h15 : x.b ≤ 15) : Calls Tryz.prog 160 #[valI x] w fun e w' => e = .returned (.int .u16 ((2 ^ x.b.toNat : Nat) : Int)) ∧ Below w.heap.size w w' := by
 unfold valI
 go_enter Tryz.func160, Tryz.ntmps160
 go_wp2_with fail
 refine (vof_top [x.b] _ 1 1 3 (w.alloc _) ?h1 rfl (by omega) ?h2).mono ?_
 case h1 => simp
 case h2 => simp; omega
 rintro e w1 ⟨rfl, rfl⟩
 go_wp2
 go_ret
 refine ⟨ret_int ?_, ((Below.refl _ _).alloc (Nat.le_refl _) _).alloc (by simp) _⟩
 simp [ors]

theorem readAB_any (x : B.Ins) (w : World) (h0 : 0 ≤ x.a) (h15 : x.a ≤ 15) (h0' : 0 ≤ x.b) (h15' : x.b ≤ 15) : Calls Tryz.prog 161 #[valI x] w fun e w' => e = .returned (.int .u16 ((2 ^ x.a.toNat ||| 2 ^ x.b.toNat : Nat) : Int)) ∧ Below w.heap.size w w' := by
 unfold valI
 go_enter Tryz.func161, Tryz.ntmps161
 go_wp2_with fail
 refine (vof_top [x.a, x.b] _ 2 2 3 (w.alloc _) ?h1 rfl (by omega) ?h2).mono ?_
 case h1 => simp
 case h2 => simp; omega
 rintro e w1 ⟨rfl, rfl⟩
 go_wp2
 go_ret
 refine ⟨ret_int ?_, ((Below.refl _ _).alloc (Nat.le_refl _) _).alloc (by simp) _⟩
 simp [ors]

/-- what an instruction reads, by its rule's function -/
theorem reads_any (x : B.Ins) (w : World) (h : x.right = true) : Calls Tryz.prog (rdFn x.op) #[valI x] w fun e w' => e = .returned (.int .u16 (x.mask : Int)) ∧ Below w.heap.size w w' := by
 have hb := B.right_bounds h
 have hB : (2 ≤ x.op ∧ x.op ≤ 5) → x.b ≤ 15 := by
  intro ho
  unfold B.Ins.right B.hiB at h
  simp [ho] at h
  omega
 unfold rdFn B.Ins.mask
 split
 ·exact readB_any x w (by omega) (hB (by omega))
 ·split
  ·exact readAB_any x w (by omega) (by omega) (by omega) (hB (by omega))
  ·split
   ·exact readA_any x w (by omega) (by omega)
   ·exact nothing_any x w

theorem free_any (x : B.Ins) (size slots left : Int) (w : World) : Calls Tryz.prog 159 #[valI x, .int .i64 size, .int .i64 slots, .int .i64 left] w fun e w' => e = .returned (.int .i64 0) ∧ Below w.heap.size w w' := by
 unfold valI
 go_enter Tryz.func159, Tryz.ntmps159
 go_wp2
 go_ret
 exact ⟨rfl, (Below.refl _ _).alloc (Nat.le_refl _) _⟩

theorem tbytes_any (x : B.Ins) (size slots left : Int) (w : World) (h0 : 0 ≤ x.b) (h1 : x.b ≤ 63) (h2 : 0 ≤ x.n) (h3 : x.n ≤ 16384) : Calls Tryz.prog 163 #[valI x, .int .i64 size, .int .i64 slots, .int .i64 left] w fun e w' => e = .returned (.int .i64 (if x.b + x.n > size then 16 else 0)) ∧ Below w.heap.size w w' := by
 unfold valI
 by_cases h : size < x.b + x.n
 ·go_enter Tryz.func163, Tryz.ntmps163
  go_wp2
  go_ret
  exact ⟨ret_int rfl, (Below.refl _ _).alloc (Nat.le_refl _) _⟩
 ·go_enter Tryz.func163, Tryz.ntmps163
  go_wp2
  go_ret
  exact ⟨ret_int rfl, (Below.refl _ _).alloc (Nat.le_refl _) _⟩

theorem tslot_any (x : B.Ins) (size slots left : Int) (w : World) : Calls Tryz.prog 164 #[valI x, .int .i64 size, .int .i64 slots, .int .i64 left] w fun e w' => e = .returned (.int .i64 (if x.b ≥ slots then 18 else 0)) ∧ Below w.heap.size w w' := by
 unfold valI
 by_cases h : slots ≤ x.b
 ·go_enter Tryz.func164, Tryz.ntmps164
  go_wp2
  go_ret
  exact ⟨ret_int rfl, (Below.refl _ _).alloc (Nat.le_refl _) _⟩
 ·go_enter Tryz.func164, Tryz.ntmps164
  go_wp2
  go_ret
  exact ⟨ret_int rfl, (Below.refl _ _).alloc (Nat.le_refl _) _⟩

theorem tskip_any (x : B.Ins) (size slots left : Int) (w : World) : Calls Tryz.prog 165 #[valI x, .int .i64 size, .int .i64 slots, .int .i64 left] w fun e w' => e = .returned (.int .i64 (if x.n > left then 16 else 0)) ∧ Below w.heap.size w w' := by
 unfold valI
 by_cases h : left < x.n
 ·go_enter Tryz.func165, Tryz.ntmps165
  go_wp2
  go_ret
  exact ⟨ret_int rfl, (Below.refl _ _).alloc (Nat.le_refl _) _⟩
 ·go_enter Tryz.func165, Tryz.ntmps165
  go_wp2
  go_ret
  exact ⟨ret_int rfl, (Below.refl _ _).alloc (Nat.le_refl _) _⟩

/-- what an instruction touches, by its rule's function -/
theorem touches_any (x : B.Ins) (size slots left : Int) (w : World) (h : x.right = true) : Calls Tryz.prog (tcFn x.op) #[valI x, .int .i64 size, .int .i64 slots, .int .i64 left] w fun e w' => e = .returned (.int .i64 (x.touch size slots left)) ∧ Below w.heap.size w w' := by
 have hb := B.right_bounds h
 unfold tcFn B.Ins.touch
 split
 ·exact tbytes_any x size slots left w (by omega) (by omega) (by omega) (by omega)
 ·split
  ·exact tslot_any x size slots left w
  ·split
   ·exact tskip_any x size slots left w
   ·exact free_any x size slots left w

end Code
end Go.Proofs.YtgjeifcmgfmgeaaGreatDoor
