/- busbarlaw17: FoldKnown, the document's examples. -/
import Derived.Test.YtegjeincncccaaaGreatDoorFlI
namespace Go.Proofs.YtegjeincncccaaaGreatDoor
open Go.RowKit

namespace Code

attribute [local go_sem ↓] Go.wp_at_zero Go.wp_at_succ

instance (r r' : B.Out) : Decidable (Same r r') :=
 decidable_of_iff (fl r' = fl r ∧ slotOf r' = slotOf r ∧ payL r' = payL r ∧ outL r' = outL r ∧ hasL r' = hasL r) ⟨fun h => ⟨h.1, h.2.1, h.2.2.1, h.2.2.2.1, h.2.2.2.2⟩, fun h => ⟨h.fl, h.slot, h.pay, h.out, h.has⟩⟩

theorem progAt_newF (ps : List B.Ins) (C : Array Value) (n : Nat) (t : TypeId) (w : World) {X : Nat} (hX : X = w.heap.size) (hC : C.toList = cellsP ps) (hn : n = ps.length) : ProgAt (w.alloc (.cells C t)) (some ⟨X, 0, none⟩) n ps := by
 subst hX
 exact progAt_new ps C n t w hC hn

/-- an instruction in a block of its own -/
def BoxF (o a b n m : Int) (X : Nat) (w : World) : Prop :=
 w.cell? ⟨X, 0, none⟩ = some (.int .i64 o) ∧ w.cell? ⟨X, 1, none⟩ = some (.int .i64 a) ∧ w.cell? ⟨X, 2, none⟩ = some (.int .i64 b) ∧ w.cell? ⟨X, 3, none⟩ = some (.int .i64 n) ∧ w.cell? ⟨X, 4, none⟩ = some (.int .u64 m)
theorem BoxF.lt {o a b n m : Int} {X : Nat} {w : World} (h : BoxF o a b n m X w) : X < w.heap.size := World.block_lt_of_cell? w _ h.1
theorem BoxF.kept {o a b n m : Int} {X : Nat} {w w' : World} (h : BoxF o a b n m X w) (hb : Below w.heap.size w w') : BoxF o a b n m X w' :=
 ⟨(hb.cell (p := ⟨X, 0, none⟩) h.lt).trans h.1, (hb.cell (p := ⟨X, 1, none⟩) h.lt).trans h.2.1, (hb.cell (p := ⟨X, 2, none⟩) h.lt).trans h.2.2.1, (hb.cell (p := ⟨X, 3, none⟩) h.lt).trans h.2.2.2.1, (hb.cell (p := ⟨X, 4, none⟩) h.lt).trans h.2.2.2.2⟩
theorem boxF_new (o a b n m : Int) {w u : World} (X : Nat) (hX : X = w.heap.size) (hu : w.alloc (.cells #[.int .i64 o, .int .i64 a, .int .i64 b, .int .i64 n, .int .u64 m] 24) = u) : BoxF o a b n m X u := by
 subst hX hu
 have hb := heap_alloc_new w (.cells #[.int .i64 o, .int .i64 a, .int .i64 b, .int .i64 n, .int .u64 m] 24)
 refine ⟨?_, ?_, ?_, ?_, ?_⟩ <;> (rw [cell_of_row _ _ _ _ _ _ hb]; rfl)

def StableF (S : World → Prop) : Prop := ∀ w w', S w → Below w.heap.size w w' → S w'

/-- and a program somewhere -/
def SaidP (S : World → Prop) (Y n : Nat) (ps : List B.Ins) (w : World) : Prop := S w ∧ ProgAt w (some ⟨Y, 0, none⟩) n ps
theorem saidP_stable {S : World → Prop} (hS : StableF S) (Y n : Nat) (ps : List B.Ins) : StableF (SaidP S Y n ps) := fun _ _ h hb => ⟨hS _ _ h.1 hb, h.2.below hb (Nat.le_refl _)⟩

def YesS (S : World → Prop) (w : World) (e : Ending) (w' : World) : Prop := e = .returned (.bool true) ∧ Below w.heap.size w w' ∧ S w'

theorem no_new (S : World → Prop) (hS : StableF S) (ps : List B.Ins) (op : Int) {w : World} {C : Array Value} {n X : Nat} (hX : X = w.heap.size) (hT : Tabs w) (h3 : S w) (hC : C.toList = cellsP ps) (hn : n = ps.length) (h0 : 0 < n) (hN : No17 ps op) :
    Calls Tryz.prog 12 #[.slice (some ⟨X, 0, none⟩) n n, .int .i64 op] (w.alloc (.cells C 24)) (YesS S w) := by
 have hb : Below w.heap.size w (w.alloc (.cells C 24)) := (Below.refl _ _).alloc (Nat.le_refl _) _
 refine (no17_any _ n n ps op _ (progAt_newF ps C n _ w hX hC hn) (hT.below hb (Nat.le_refl _)) h0 hN).mono ?_
 rintro e w' ⟨rfl, hb2⟩
 have hb3 := hb.trans (hb2.mono (by simp))
 exact ⟨rfl, hb3, hS _ _ h3 hb3⟩

def FoldS (S : World → Prop) (n : Nat) (qs : List B.Ins) (w : World) (e : Ending) (w' : World) : Prop := ∃ g c, e = .returned (.tuple #[.slice (some ⟨g, 0, none⟩) n c, .nilIface]) ∧ Below w.heap.size w w' ∧ SaidP S g n qs w'

theorem fold_old (S : World → Prop) (hS : StableF S) (ps qs : List B.Ins) {Y n c : Nat} {w : World} (hT : Tabs w) (h3 : S w) (hp : ProgAt w (some ⟨Y, 0, none⟩) n ps) (h0 : 0 < n) (hwf : ps.all wfF = true) (hm : B.program ps 1 1 = (0, none)) (hq : B.fold ps = qs) :
    Calls Tryz.prog 13 #[.slice (some ⟨Y, 0, none⟩) n c, .int .i64 1, .int .i64 1] w (FoldS S n qs w) := by
 refine (fold_yes _ n c ps 1 1 w hp (wf_F hwf) hT ((B.program_ok _ _ _).1 hm) h0).mono ?_
 rintro e w' ⟨g, c, rfl, ho, hb⟩
 rw [hq] at ho
 exact ⟨g, c, rfl, hb, hS _ _ h3 hb, ho.progAt⟩

/-- two programs, alike at one payload and one value -/
structure Alk (ps qs : List B.Ins) (x v : Nat) : Prop where
 wf : ps.all wfF = true
 may : B.program ps 1 1 = (0, none)
 wf' : qs.all wfF = true
 may' : B.program qs 1 1 = (0, none)
 same : Same (B.run ps [v] 0 (B.start [x] 1)) (B.run qs [v] 0 (B.start [x] 1))

theorem alike_new (S : World → Prop) (hS : StableF S) (ps qs : List B.Ins) (x v : Nat) (hx : x < 256) (hv : v < 18446744073709551616) {a1 a2 : Option Addr} {len1 cap1 len2 cap2 : Nat} {w : World} {X Y : Nat} (hX : X = w.heap.size) (hY : Y = w.heap.size + 1) (hT : Tabs w) (h3 : S w) (hp : ProgAt w a1 len1 ps) (hq : ProgAt w a2 len2 qs) (hA : Alk ps qs x v) {C D : Array Value} (hC : C.toList = ([x] : List Nat).map u8V) (hD : D.toList = ([v] : List Nat).map u64V) :
    Calls Tryz.prog 14 #[.slice a1 len1 cap1, .slice a2 len2 cap2, .slice (some ⟨X, 0, none⟩) 1 1, .slice (some ⟨Y, 0, none⟩) 1 1] ((w.alloc (.cells C 5)).alloc (.cells D 22)) (YesS S w) := by
 have hb1 : Below w.heap.size w (w.alloc (.cells C 5)) := (Below.refl _ _).alloc (Nat.le_refl _) _
 have hb2 : Below (w.heap.size + 1) (w.alloc (.cells C 5)) ((w.alloc (.cells C 5)).alloc (.cells D 22)) := (Below.refl _ _).alloc (by simp) _
 have hba := hb1.trans (hb2.mono (by omega))
 have l1 := listAt_new (([x] : List Nat).map u8V) C 1 X 5 w hC rfl hX
 have l2 := listAt_new (([v] : List Nat).map u64V) D 1 Y 22 (w.alloc (.cells C 5)) hD rfl (by rw [hY]; simp)
 refine (alike17_any hA.same a1 len1 cap1 ps a2 len2 cap2 qs _ _ 1 1 1 1 [x] [v] _ (hp.below hba (Nat.le_refl _)) (wf_F hA.wf) (hq.below hba (Nat.le_refl _)) (wf_F hA.wf') (hT.below hba (Nat.le_refl _)) ((B.program_ok _ _ _).1 hA.may) ((B.program_ok _ _ _).1 hA.may') (l1.below hb2 (by simp)) l2 (by intro y hy; simp at hy; omega) (by intro y hy; simp at hy; omega) rfl rfl).mono ?_
 rintro e w' ⟨rfl, hb⟩
 have hb3 := hba.trans (hb.mono hba.size)
 exact ⟨rfl, hb3, hS _ _ h3 hb3⟩

def kA : List B.Ins := [⟨1, 0, 0, 0, 1⟩, ⟨19, 0, 0, 1, 1⟩, ⟨1, 0, 0, 0, 2⟩, ⟨16, 0, 0, 0, 0⟩]
def kB : List B.Ins := [⟨1, 0, 0, 0, 1⟩, ⟨19, 0, 0, 1, 7⟩, ⟨1, 0, 0, 0, 2⟩, ⟨16, 0, 0, 0, 0⟩]
def kC : List B.Ins := [⟨15, 1, 0, 0, 0⟩, ⟨1, 0, 0, 0, 1⟩, ⟨19, 1, 0, 1, 0⟩, ⟨1, 0, 0, 0, 1⟩, ⟨6, 0, 0, 3, 0⟩, ⟨16, 0, 0, 0, 0⟩]
def kD : List B.Ins := [⟨1, 0, 0, 0, 2⟩, ⟨17, 0, 0, 3, 0⟩, ⟨16, 0, 0, 0, 0⟩]
def kE : List B.Ins := [⟨1, 0, 0, 0, 1⟩, ⟨19, 0, 0, 1, 7⟩, ⟨1, 0, 0, 0, 9⟩, ⟨5, 0, 0, 0, 0⟩, ⟨16, 0, 0, 0, 0⟩]
def kF : List B.Ins := [⟨1, 0, 0, 0, 1⟩, ⟨14, 0, 0, 1, 0⟩, ⟨16, 0, 0, 0, 0⟩]
def kP : List B.Ins := [⟨15, 1, 0, 0, 0⟩, ⟨1, 0, 0, 0, 1⟩, ⟨19, 1, 0, 1, 0⟩, ⟨1, 0, 0, 0, 2⟩, ⟨6, 0, 0, 3, 0⟩, ⟨16, 0, 0, 0, 0⟩]
def kR : List B.Ins := [⟨1, 0, 0, 0, 9⟩, ⟨17, 0, 0, 3, 0⟩, ⟨16, 0, 0, 0, 0⟩]
def kL : List B.Ins := [⟨1, 0, 0, 0, 1⟩, ⟨9, 0, 0, 1, 0⟩, ⟨6, 0, 0, 3, 0⟩, ⟨16, 0, 0, 0, 0⟩]
def kO : List B.Ins := [⟨16, 0, 0, 0, 0⟩]

theorem kA_no : No17 kA 19 := ⟨by decide +kernel, by decide +kernel, by decide +kernel, by decide +kernel, by decide +kernel, by decide +kernel, by decide +kernel⟩
theorem kB_no : No17 kB 19 := ⟨by decide +kernel, by decide +kernel, by decide +kernel, by decide +kernel, by decide +kernel, by decide +kernel, by decide +kernel⟩
theorem kC_no : No17 kC 6 := ⟨by decide +kernel, by decide +kernel, by decide +kernel, by decide +kernel, by decide +kernel, by decide +kernel, by decide +kernel⟩
theorem kD_no : No17 kD 17 := ⟨by decide +kernel, by decide +kernel, by decide +kernel, by decide +kernel, by decide +kernel, by decide +kernel, by decide +kernel⟩
theorem kE_no : No17 kE 5 := ⟨by decide +kernel, by decide +kernel, by decide +kernel, by decide +kernel, by decide +kernel, by decide +kernel, by decide +kernel⟩
theorem kF_no : No17 kF 14 := ⟨by decide +kernel, by decide +kernel, by decide +kernel, by decide +kernel, by decide +kernel, by decide +kernel, by decide +kernel⟩
theorem kP_alk : ∀ v, v < 3 → Alk kP (B.fold kP) 0 v := by
 have h : ∀ v, v < 3 → Same (B.run kP [v] 0 (B.start [0] 1)) (B.run (B.fold kP) [v] 0 (B.start [0] 1)) := by decide +kernel
 exact fun v hv => ⟨by decide +kernel, by decide +kernel, by decide +kernel, by decide +kernel, h v hv⟩
theorem kR_alk : ∀ v, v < 3 → Alk kR (B.fold kR) 0 v := by
 have h : ∀ v, v < 3 → Same (B.run kR [v] 0 (B.start [0] 1)) (B.run (B.fold kR) [v] 0 (B.start [0] 1)) := by decide +kernel
 exact fun v hv => ⟨by decide +kernel, by decide +kernel, by decide +kernel, by decide +kernel, h v hv⟩
theorem kL_alk : Alk kL (B.fold kL) 9 0 := ⟨by decide +kernel, by decide +kernel, by decide +kernel, by decide +kernel, by decide +kernel⟩
theorem kO_no : ¬ B.MayRun kO 1 1 := by rw [← B.program_ok]; decide +kernel

/-- the examples' instructions -/
def SaidF (X : Nat) (w : World) : Prop := BoxF 15 1 0 0 0 X w ∧ BoxF 1 0 0 0 1 (X + 1) w ∧ BoxF 1 0 0 0 2 (X + 1 + 1) w ∧ BoxF 16 0 0 0 0 (X + 1 + 1 + 1) w ∧ BoxF 19 0 0 1 1 (X + 1 + 1 + 1 + 1) w ∧ BoxF 19 0 0 1 7 (X + 1 + 1 + 1 + 1 + 1) w ∧ BoxF 19 1 0 1 0 (X + 1 + 1 + 1 + 1 + 1 + 1) w ∧ BoxF 6 0 0 3 0 (X + 1 + 1 + 1 + 1 + 1 + 1 + 1) w ∧ BoxF 1 0 0 0 9 (X + 1 + 1 + 1 + 1 + 1 + 1 + 1 + 1) w ∧ BoxF 17 0 0 3 0 (X + 1 + 1 + 1 + 1 + 1 + 1 + 1 + 1 + 1) w
theorem saidF_stable (X : Nat) : StableF (SaidF X) := fun _ _ h hb => ⟨h.1.kept hb, h.2.1.kept hb, h.2.2.1.kept hb, h.2.2.2.1.kept hb, h.2.2.2.2.1.kept hb, h.2.2.2.2.2.1.kept hb, h.2.2.2.2.2.2.1.kept hb, h.2.2.2.2.2.2.2.1.kept hb, h.2.2.2.2.2.2.2.2.1.kept hb, h.2.2.2.2.2.2.2.2.2.kept hb⟩

set_option maxRecDepth 100000 in
set_option maxHeartbeats 3200000 in
theorem saidF_new (w : World) : ∃ w0, ((((((((((w.alloc (.cells #[.int .i64 15, .int .i64 1, .int .i64 0, .int .i64 0, .int .u64 0] 24)).alloc (.cells #[.int .i64 1, .int .i64 0, .int .i64 0, .int .i64 0, .int .u64 1] 24)).alloc (.cells #[.int .i64 1, .int .i64 0, .int .i64 0, .int .i64 0, .int .u64 2] 24)).alloc (.cells #[.int .i64 16, .int .i64 0, .int .i64 0, .int .i64 0, .int .u64 0] 24)).alloc (.cells #[.int .i64 19, .int .i64 0, .int .i64 0, .int .i64 1, .int .u64 1] 24)).alloc (.cells #[.int .i64 19, .int .i64 0, .int .i64 0, .int .i64 1, .int .u64 7] 24)).alloc (.cells #[.int .i64 19, .int .i64 1, .int .i64 0, .int .i64 1, .int .u64 0] 24)).alloc (.cells #[.int .i64 6, .int .i64 0, .int .i64 0, .int .i64 3, .int .u64 0] 24)).alloc (.cells #[.int .i64 1, .int .i64 0, .int .i64 0, .int .i64 0, .int .u64 9] 24)).alloc (.cells #[.int .i64 17, .int .i64 0, .int .i64 0, .int .i64 3, .int .u64 0] 24)) = w0 ∧ Below w.heap.size w w0 ∧ SaidF w.heap.size w0 := by
 have k : ∀ (v : World) (o : Obj), Below v.heap.size v (v.alloc o) := fun v o => (Below.refl _ _).alloc (Nat.le_refl _) _
 have z : ∀ (v : World) (o : Obj), (v.alloc o).heap.size = v.heap.size + 1 := fun v o => by simp
 obtain ⟨v0, e0⟩ : ∃ v, w.alloc (.cells #[.int .i64 15, .int .i64 1, .int .i64 0, .int .i64 0, .int .u64 0] 24) = v := ⟨_, rfl⟩
 obtain ⟨v1, e1⟩ : ∃ v, v0.alloc (.cells #[.int .i64 1, .int .i64 0, .int .i64 0, .int .i64 0, .int .u64 1] 24) = v := ⟨_, rfl⟩
 obtain ⟨v2, e2⟩ : ∃ v, v1.alloc (.cells #[.int .i64 1, .int .i64 0, .int .i64 0, .int .i64 0, .int .u64 2] 24) = v := ⟨_, rfl⟩
 obtain ⟨v3, e3⟩ : ∃ v, v2.alloc (.cells #[.int .i64 16, .int .i64 0, .int .i64 0, .int .i64 0, .int .u64 0] 24) = v := ⟨_, rfl⟩
 obtain ⟨v4, e4⟩ : ∃ v, v3.alloc (.cells #[.int .i64 19, .int .i64 0, .int .i64 0, .int .i64 1, .int .u64 1] 24) = v := ⟨_, rfl⟩
 obtain ⟨v5, e5⟩ : ∃ v, v4.alloc (.cells #[.int .i64 19, .int .i64 0, .int .i64 0, .int .i64 1, .int .u64 7] 24) = v := ⟨_, rfl⟩
 obtain ⟨v6, e6⟩ : ∃ v, v5.alloc (.cells #[.int .i64 19, .int .i64 1, .int .i64 0, .int .i64 1, .int .u64 0] 24) = v := ⟨_, rfl⟩
 obtain ⟨v7, e7⟩ : ∃ v, v6.alloc (.cells #[.int .i64 6, .int .i64 0, .int .i64 0, .int .i64 3, .int .u64 0] 24) = v := ⟨_, rfl⟩
 obtain ⟨v8, e8⟩ : ∃ v, v7.alloc (.cells #[.int .i64 1, .int .i64 0, .int .i64 0, .int .i64 0, .int .u64 9] 24) = v := ⟨_, rfl⟩
 obtain ⟨v9, e9⟩ : ∃ v, v8.alloc (.cells #[.int .i64 17, .int .i64 0, .int .i64 0, .int .i64 3, .int .u64 0] 24) = v := ⟨_, rfl⟩
 refine ⟨v9, by rw [e0, e1, e2, e3, e4, e5, e6, e7, e8, e9], ?_⟩
 have b0 : Below w.heap.size w v0 := by rw [← e0]; exact k _ _
 have z0 : v0.heap.size = w.heap.size + 1 := by rw [← e0, z]
 have b1 : Below v0.heap.size v0 v1 := by rw [← e1]; exact k _ _
 have z1 : v1.heap.size = w.heap.size + 1 + 1 := by rw [← e1, z, z0]
 have b2 : Below v1.heap.size v1 v2 := by rw [← e2]; exact k _ _
 have z2 : v2.heap.size = w.heap.size + 1 + 1 + 1 := by rw [← e2, z, z1]
 have b3 : Below v2.heap.size v2 v3 := by rw [← e3]; exact k _ _
 have z3 : v3.heap.size = w.heap.size + 1 + 1 + 1 + 1 := by rw [← e3, z, z2]
 have b4 : Below v3.heap.size v3 v4 := by rw [← e4]; exact k _ _
 have z4 : v4.heap.size = w.heap.size + 1 + 1 + 1 + 1 + 1 := by rw [← e4, z, z3]
 have b5 : Below v4.heap.size v4 v5 := by rw [← e5]; exact k _ _
 have z5 : v5.heap.size = w.heap.size + 1 + 1 + 1 + 1 + 1 + 1 := by rw [← e5, z, z4]
 have b6 : Below v5.heap.size v5 v6 := by rw [← e6]; exact k _ _
 have z6 : v6.heap.size = w.heap.size + 1 + 1 + 1 + 1 + 1 + 1 + 1 := by rw [← e6, z, z5]
 have b7 : Below v6.heap.size v6 v7 := by rw [← e7]; exact k _ _
 have z7 : v7.heap.size = w.heap.size + 1 + 1 + 1 + 1 + 1 + 1 + 1 + 1 := by rw [← e7, z, z6]
 have b8 : Below v7.heap.size v7 v8 := by rw [← e8]; exact k _ _
 have z8 : v8.heap.size = w.heap.size + 1 + 1 + 1 + 1 + 1 + 1 + 1 + 1 + 1 := by rw [← e8, z, z7]
 have b9 : Below v8.heap.size v8 v9 := by rw [← e9]; exact k _ _
 have z9 : v9.heap.size = w.heap.size + 1 + 1 + 1 + 1 + 1 + 1 + 1 + 1 + 1 + 1 := by rw [← e9, z, z8]
 have c9 : Below v9.heap.size v9 v9 := Below.refl _ _
 have c8 : Below v8.heap.size v8 v9 := b9.trans (c9.mono (by omega))
 have c7 : Below v7.heap.size v7 v9 := b8.trans (c8.mono (by omega))
 have c6 : Below v6.heap.size v6 v9 := b7.trans (c7.mono (by omega))
 have c5 : Below v5.heap.size v5 v9 := b6.trans (c6.mono (by omega))
 have c4 : Below v4.heap.size v4 v9 := b5.trans (c5.mono (by omega))
 have c3 : Below v3.heap.size v3 v9 := b4.trans (c4.mono (by omega))
 have c2 : Below v2.heap.size v2 v9 := b3.trans (c3.mono (by omega))
 have c1 : Below v1.heap.size v1 v9 := b2.trans (c2.mono (by omega))
 have c0 : Below v0.heap.size v0 v9 := b1.trans (c1.mono (by omega))
 exact ⟨b0.trans (c0.mono (by omega)), (boxF_new 15 1 0 0 0 _ rfl e0).kept c0, (boxF_new 1 0 0 0 1 _ z0.symm e1).kept c1, (boxF_new 1 0 0 0 2 _ z1.symm e2).kept c2, (boxF_new 16 0 0 0 0 _ z2.symm e3).kept c3, (boxF_new 19 0 0 1 1 _ z3.symm e4).kept c4, (boxF_new 19 0 0 1 7 _ z4.symm e5).kept c5, (boxF_new 19 1 0 1 0 _ z5.symm e6).kept c6, (boxF_new 6 0 0 3 0 _ z6.symm e7).kept c7, (boxF_new 1 0 0 0 9 _ z7.symm e8).kept c8, (boxF_new 17 0 0 3 0 _ z8.symm e9).kept c9⟩

set_option maxRecDepth 100000 in
set_option maxHeartbeats 12800000 in
theorem foldKnown_any (w : World) (hT : Tabs w) : Calls Tryz.prog 3 #[] w (BoolOut true w) := by
 have HT := Lib.hid hT
 clear hT
 obtain ⟨w0, hw0, hb0, hs0⟩ := saidF_new w
 have HB0 := Lib.hid hb0
 have HS0 := Lib.hid hs0
 have hS := Lib.hid (saidF_stable w.heap.size)
 have HW0 := Lib.hid hw0
 clear hw0 hb0 hs0
 go_enter Tryz.func3, Tryz.ntmps3
 go_upto_region 11 with fail
 rw [HW0.out]
 clear HW0
 obtain ⟨X, hX⟩ : ∃ X, w.heap.size = X := ⟨_, rfl⟩
 rw [hX] at hS HS0
 rw [hX]
 have HX := Lib.hid hX
 clear hX
 obtain ⟨on0, on1, on2, on3, on4⟩ := HS0.out.2.1
 obtain ⟨eq0, eq1, eq2, eq3, eq4⟩ := HS0.out.2.2.2.2.1
 obtain ⟨tw0, tw1, tw2, tw3, tw4⟩ := HS0.out.2.2.1
 obtain ⟨ou0, ou1, ou2, ou3, ou4⟩ := HS0.out.2.2.2.1
 go_wp2_with fail
 clear on0 on1 on2 on3 on4 eq0 eq1 eq2 eq3 eq4 tw0 tw1 tw2 tw3 tw4 ou0 ou1 ou2 ou3 ou4
 refine (no_new (SaidF X) hS.out kA 19 rfl (HT.out.below HB0.out (Nat.le_refl _)) HS0.out rfl rfl (by decide) kA_no).mono ?_
 rintro e w1 ⟨rfl, hb, hs⟩
 have HB1 := Lib.hid (HB0.out.trans (hb.mono HB0.out.size))
 have HS1 := Lib.hid hs
 clear hb hs HB0 HS0
 obtain ⟨on0, on1, on2, on3, on4⟩ := HS1.out.2.1
 obtain ⟨ne0, ne1, ne2, ne3, ne4⟩ := HS1.out.2.2.2.2.2.1
 obtain ⟨tw0, tw1, tw2, tw3, tw4⟩ := HS1.out.2.2.1
 obtain ⟨ou0, ou1, ou2, ou3, ou4⟩ := HS1.out.2.2.2.1
 go_wp2_with fail
 clear on0 on1 on2 on3 on4 ne0 ne1 ne2 ne3 ne4 tw0 tw1 tw2 tw3 tw4 ou0 ou1 ou2 ou3 ou4
 refine (no_new (SaidF X) hS.out kB 19 rfl (HT.out.below HB1.out (Nat.le_refl _)) HS1.out rfl rfl (by decide) kB_no).mono ?_
 rintro e w2 ⟨rfl, hb, hs⟩
 have HB2 := Lib.hid (HB1.out.trans (hb.mono HB1.out.size))
 have HS2 := Lib.hid hs
 clear hb hs HB1 HS1
 obtain ⟨in0, in1, in2, in3, in4⟩ := HS2.out.1
 obtain ⟨on0, on1, on2, on3, on4⟩ := HS2.out.2.1
 obtain ⟨as0, as1, as2, as3, as4⟩ := HS2.out.2.2.2.2.2.2.1
 obtain ⟨sh0, sh1, sh2, sh3, sh4⟩ := HS2.out.2.2.2.2.2.2.2.1
 obtain ⟨ou0, ou1, ou2, ou3, ou4⟩ := HS2.out.2.2.2.1
 go_wp2_with fail
 clear in0 in1 in2 in3 in4 on0 on1 on2 on3 on4 as0 as1 as2 as3 as4 sh0 sh1 sh2 sh3 sh4 ou0 ou1 ou2 ou3 ou4
 refine (no_new (SaidF X) hS.out kC 6 rfl (HT.out.below HB2.out (Nat.le_refl _)) HS2.out rfl rfl (by decide) kC_no).mono ?_
 rintro e w3 ⟨rfl, hb, hs⟩
 have HB3 := Lib.hid (HB2.out.trans (hb.mono HB2.out.size))
 have HS3 := Lib.hid hs
 clear hb hs HB2 HS2
 obtain ⟨tw0, tw1, tw2, tw3, tw4⟩ := HS3.out.2.2.1
 obtain ⟨fi0, fi1, fi2, fi3, fi4⟩ := HS3.out.2.2.2.2.2.2.2.2.2
 obtain ⟨ou0, ou1, ou2, ou3, ou4⟩ := HS3.out.2.2.2.1
 go_wp2_with fail
 clear tw0 tw1 tw2 tw3 tw4 fi0 fi1 fi2 fi3 fi4 ou0 ou1 ou2 ou3 ou4
 refine (no_new (SaidF X) hS.out kD 17 rfl (HT.out.below HB3.out (Nat.le_refl _)) HS3.out rfl rfl (by decide) kD_no).mono ?_
 rintro e w4 ⟨rfl, hb, hs⟩
 have HB4 := Lib.hid (HB3.out.trans (hb.mono HB3.out.size))
 have HS4 := Lib.hid hs
 clear hb hs HB3 HS3
 obtain ⟨on0, on1, on2, on3, on4⟩ := HS4.out.2.1
 obtain ⟨ne0, ne1, ne2, ne3, ne4⟩ := HS4.out.2.2.2.2.2.1
 obtain ⟨ni0, ni1, ni2, ni3, ni4⟩ := HS4.out.2.2.2.2.2.2.2.2.1
 obtain ⟨ou0, ou1, ou2, ou3, ou4⟩ := HS4.out.2.2.2.1
 go_wp2_with fail
 clear on0 on1 on2 on3 on4 ne0 ne1 ne2 ne3 ne4 ni0 ni1 ni2 ni3 ni4 ou0 ou1 ou2 ou3 ou4
 refine (no_new (SaidF X) hS.out kE 5 rfl (HT.out.below HB4.out (Nat.le_refl _)) HS4.out rfl rfl (by decide) kE_no).mono ?_
 rintro e w5 ⟨rfl, hb, hs⟩
 have HB5 := Lib.hid (HB4.out.trans (hb.mono HB4.out.size))
 have HS5 := Lib.hid hs
 clear hb hs HB4 HS4
 obtain ⟨on0, on1, on2, on3, on4⟩ := HS5.out.2.1
 obtain ⟨ou0, ou1, ou2, ou3, ou4⟩ := HS5.out.2.2.2.1
 go_wp2_with fail
 clear on0 on1 on2 on3 on4 ou0 ou1 ou2 ou3 ou4
 refine (no_new (SaidF X) hS.out kF 14 rfl (HT.out.below HB5.out (Nat.le_refl _)) HS5.out rfl rfl (by decide) kF_no).mono ?_
 rintro e w6 ⟨rfl, hb, hs⟩
 have HB6 := Lib.hid (HB5.out.trans (hb.mono HB5.out.size))
 have HS6 := Lib.hid hs
 clear hb hs HB5 HS5
 obtain ⟨in0, in1, in2, in3, in4⟩ := HS6.out.1
 obtain ⟨on0, on1, on2, on3, on4⟩ := HS6.out.2.1
 obtain ⟨as0, as1, as2, as3, as4⟩ := HS6.out.2.2.2.2.2.2.1
 obtain ⟨tw0, tw1, tw2, tw3, tw4⟩ := HS6.out.2.2.1
 obtain ⟨sh0, sh1, sh2, sh3, sh4⟩ := HS6.out.2.2.2.2.2.2.2.1
 obtain ⟨ou0, ou1, ou2, ou3, ou4⟩ := HS6.out.2.2.2.1
 go_wp2_with fail
 clear in0 in1 in2 in3 in4 on0 on1 on2 on3 on4 as0 as1 as2 as3 as4 tw0 tw1 tw2 tw3 tw4 sh0 sh1 sh2 sh3 sh4 ou0 ou1 ou2 ou3 ou4
 obtain ⟨wa, hwa⟩ : ∃ wa, w6.alloc (.cells #[.int .i64 15, .int .i64 1, .int .i64 0, .int .i64 0, .int .u64 0, .int .i64 1, .int .i64 0, .int .i64 0, .int .i64 0, .int .u64 1, .int .i64 19, .int .i64 1, .int .i64 0, .int .i64 1, .int .u64 0, .int .i64 1, .int .i64 0, .int .i64 0, .int .i64 0, .int .u64 2, .int .i64 6, .int .i64 0, .int .i64 0, .int .i64 3, .int .u64 0, .int .i64 16, .int .i64 0, .int .i64 0, .int .i64 0, .int .u64 0] 24) = wa := ⟨_, rfl⟩
 have hba : Below w6.heap.size w6 wa := by rw [← hwa]; exact (Below.refl _ _).alloc (Nat.le_refl _) _
 obtain ⟨Yp, hY⟩ : ∃ Y, w6.heap.size = Y := ⟨_, rfl⟩
 have HSa : Hid (SaidP (SaidF X) Yp 6 kP wa) := Lib.hid ⟨hS.out _ _ HS6.out hba, by rw [← hwa]; exact progAt_newF kP _ 6 _ _ hY.symm rfl rfl⟩
 have HBa := Lib.hid (HB6.out.trans (hba.mono HB6.out.size))
 rw [hwa, hY]
 clear hwa hba hY
 refine (fold_old (SaidP (SaidF X) Yp 6 kP) (saidP_stable hS.out Yp 6 kP) kP (B.fold kP) (HT.out.below HBa.out (Nat.le_refl _)) HSa.out HSa.out.2 (by decide) (by decide +kernel) (by decide +kernel) rfl).mono ?_
 rintro e w7 ⟨gp, cp, rfl, hb, hs⟩
 have HB7 := Lib.hid (HBa.out.trans (hb.mono HBa.out.size))
 have HS7 := Lib.hid hs
 clear hb hs HSa HBa HB6 HS6
 obtain ⟨ni0, ni1, ni2, ni3, ni4⟩ := HS7.out.1.1.2.2.2.2.2.2.2.2.1
 obtain ⟨fi0, fi1, fi2, fi3, fi4⟩ := HS7.out.1.1.2.2.2.2.2.2.2.2.2
 obtain ⟨ou0, ou1, ou2, ou3, ou4⟩ := HS7.out.1.1.2.2.2.1
 go_wp2_with fail
 clear ni0 ni1 ni2 ni3 ni4 fi0 fi1 fi2 fi3 fi4 ou0 ou1 ou2 ou3 ou4
 obtain ⟨wa, hwa⟩ : ∃ wa, w7.alloc (.cells #[.int .i64 1, .int .i64 0, .int .i64 0, .int .i64 0, .int .u64 9, .int .i64 17, .int .i64 0, .int .i64 0, .int .i64 3, .int .u64 0, .int .i64 16, .int .i64 0, .int .i64 0, .int .i64 0, .int .u64 0] 24) = wa := ⟨_, rfl⟩
 have hba : Below w7.heap.size w7 wa := by rw [← hwa]; exact (Below.refl _ _).alloc (Nat.le_refl _) _
 obtain ⟨Yr, hY⟩ : ∃ Y, w7.heap.size = Y := ⟨_, rfl⟩
 have HSa : Hid (SaidP (SaidP (SaidP (SaidF X) Yp 6 kP) gp 6 (B.fold kP)) Yr 3 kR wa) := Lib.hid ⟨(saidP_stable (saidP_stable hS.out Yp 6 kP) gp 6 (B.fold kP)) _ _ HS7.out hba, by rw [← hwa]; exact progAt_newF kR _ 3 _ _ hY.symm rfl rfl⟩
 have HBa := Lib.hid (HB7.out.trans (hba.mono HB7.out.size))
 rw [hwa, hY]
 clear hwa hba hY
 refine (fold_old (SaidP (SaidP (SaidP (SaidF X) Yp 6 kP) gp 6 (B.fold kP)) Yr 3 kR) (saidP_stable (saidP_stable (saidP_stable hS.out Yp 6 kP) gp 6 (B.fold kP)) Yr 3 kR) kR (B.fold kR) (HT.out.below HBa.out (Nat.le_refl _)) HSa.out HSa.out.2 (by decide) (by decide +kernel) (by decide +kernel) rfl).mono ?_
 rintro e w8 ⟨gr, cr, rfl, hb, hs⟩
 have HB8 := Lib.hid (HBa.out.trans (hb.mono HBa.out.size))
 have HS8 := Lib.hid hs
 clear hb hs HSa HBa HB7 HS7
 have hS4 := Lib.hid (saidP_stable (saidP_stable (saidP_stable (saidP_stable hS.out Yp 6 kP) gp 6 (B.fold kP)) Yr 3 kR) gr 3 (B.fold kR))
 go_wp2_with fail
 go_loopw [17] (fun i wr => ∃ v : Nat, i = .int .u64 (v : Int) ∧ v ≤ 3 ∧ Hid (Below w.heap.size w wr ∧ (SaidP (SaidP (SaidP (SaidP (SaidF X) Yp 6 kP) gp 6 (B.fold kP)) Yr 3 kR) gr 3 (B.fold kR)) wr)) (fun i _ => 3 - (intOf i).toNat)
 case atStart => exact ⟨0, rfl, by omega, HB8.out, HS8.out⟩
 case round =>
  obtain ⟨v, rfl, hv, HI⟩ := hrel
  clear HB8 HS8
  by_cases h3 : v < 3
  ·have e1 : ((v : Int) < 3) = True := by simp; omega
   have k3 : IntKind.u64.wrap ((v : Int) + 1) = (v : Int) + 1 := by rw [IntKind.wrap_u64]; omega
   go_wp2_with fail
   refine (alike_new (SaidP (SaidP (SaidP (SaidP (SaidF X) Yp 6 kP) gp 6 (B.fold kP)) Yr 3 kR) gr 3 (B.fold kR)) hS4.out kP (B.fold kP) 0 v (by omega) (by omega) rfl rfl (HT.out.below HI.out.1 (Nat.le_refl _)) HI.out.2 HI.out.2.1.1.1.2 HI.out.2.1.1.2 (kP_alk v h3) rfl rfl).mono ?_
   rintro e wq ⟨rfl, hb, hs⟩
   have HJ := Lib.hid hs
   have HBJ := Lib.hid (HI.out.1.trans (hb.mono HI.out.1.size))
   clear hb hs HI
   go_wp2_with fail
   refine (alike_new (SaidP (SaidP (SaidP (SaidP (SaidF X) Yp 6 kP) gp 6 (B.fold kP)) Yr 3 kR) gr 3 (B.fold kR)) hS4.out kR (B.fold kR) 0 v (by omega) (by omega) rfl rfl (HT.out.below HBJ.out (Nat.le_refl _)) HJ.out HJ.out.1.2 HJ.out.2 (kR_alk v h3) rfl rfl).mono ?_
   rintro e wz ⟨rfl, hb, hs⟩
   have HK := Lib.hid hs
   have HBK := Lib.hid (HBJ.out.trans (hb.mono HBJ.out.size))
   clear hb hs HJ HBJ
   go_wp2_with fail
   go_roundw
   case rel => exact ⟨v + 1, by go_num, h3, HBK.out, HK.out⟩
   case measure => simp [intOf]; omega
  ·have e1 : ((v : Int) < 3) = False := by simp; omega
   obtain ⟨w90, hw90⟩ : ∃ w90, wr = w90 := ⟨_, rfl⟩
   rw [hw90] at HI
   rw [hw90]
   have HB90 := Lib.hid HI.out.1
   have HS90 := Lib.hid HI.out.2
   clear hw90 HI hS4
   obtain ⟨on0, on1, on2, on3, on4⟩ := HS90.out.1.1.1.1.2.1
   obtain ⟨sh0, sh1, sh2, sh3, sh4⟩ := HS90.out.1.1.1.1.2.2.2.2.2.2.2.1
   obtain ⟨ou0, ou1, ou2, ou3, ou4⟩ := HS90.out.1.1.1.1.2.2.2.1
   go_wp2_with fail
   clear on0 on1 on2 on3 on4 sh0 sh1 sh2 sh3 sh4 ou0 ou1 ou2 ou3 ou4
   obtain ⟨wa, hwa⟩ : ∃ wa, w90.alloc (.cells #[.int .i64 1, .int .i64 0, .int .i64 0, .int .i64 0, .int .u64 1, .int .i64 9, .int .i64 0, .int .i64 0, .int .i64 1, .int .u64 0, .int .i64 6, .int .i64 0, .int .i64 0, .int .i64 3, .int .u64 0, .int .i64 16, .int .i64 0, .int .i64 0, .int .i64 0, .int .u64 0] 24) = wa := ⟨_, rfl⟩
   have hba : Below w90.heap.size w90 wa := by rw [← hwa]; exact (Below.refl _ _).alloc (Nat.le_refl _) _
   obtain ⟨Yl, hY⟩ : ∃ Y, w90.heap.size = Y := ⟨_, rfl⟩
   have HSa : Hid (SaidP (SaidP (SaidP (SaidP (SaidP (SaidF X) Yp 6 kP) gp 6 (B.fold kP)) Yr 3 kR) gr 3 (B.fold kR)) Yl 4 kL wa) := Lib.hid ⟨(saidP_stable (saidP_stable (saidP_stable (saidP_stable hS.out Yp 6 kP) gp 6 (B.fold kP)) Yr 3 kR) gr 3 (B.fold kR)) _ _ HS90.out hba, by rw [← hwa]; exact progAt_newF kL _ 4 _ _ hY.symm rfl rfl⟩
   have HBa := Lib.hid (HB90.out.trans (hba.mono HB90.out.size))
   rw [hwa, hY]
   clear hwa hba hY
   refine (fold_old (SaidP (SaidP (SaidP (SaidP (SaidP (SaidF X) Yp 6 kP) gp 6 (B.fold kP)) Yr 3 kR) gr 3 (B.fold kR)) Yl 4 kL) (saidP_stable (saidP_stable (saidP_stable (saidP_stable (saidP_stable hS.out Yp 6 kP) gp 6 (B.fold kP)) Yr 3 kR) gr 3 (B.fold kR)) Yl 4 kL) kL (B.fold kL) (HT.out.below HBa.out (Nat.le_refl _)) HSa.out HSa.out.2 (by decide) (by decide +kernel) (by decide +kernel) rfl).mono ?_
   rintro e w91 ⟨gl, cl, rfl, hb, hs⟩
   have HB91 := Lib.hid (HBa.out.trans (hb.mono HBa.out.size))
   have HS91 := Lib.hid hs
   clear hb hs HSa HBa HB90 HS90
   obtain ⟨ou0, ou1, ou2, ou3, ou4⟩ := HS91.out.1.1.1.1.1.1.2.2.2.1
   go_wp2_with fail
   clear ou0 ou1 ou2 ou3 ou4
   have hba : Below w91.heap.size w91 (w91.alloc (.cells #[.int .i64 16, .int .i64 0, .int .i64 0, .int .i64 0, .int .u64 0] 24)) := (Below.refl _ _).alloc (Nat.le_refl _) _
   have HBA := Lib.hid hba
   clear hba
   refine (fold_no _ 1 1 kO 1 1 _ (progAt_newF kO _ 1 _ w91 rfl rfl rfl) (wf_F (by decide +kernel)) (HT.out.below (HB91.out.trans (HBA.out.mono HB91.out.size)) (Nat.le_refl _)) (by omega) kO_no).mono ?_
   rintro e w92 ⟨T, x, rfl, hb⟩
   have HB92 := Lib.hid (HB91.out.trans ((HBA.out.trans (hb.mono HBA.out.size)).mono HB91.out.size))
   have HS92 := Lib.hid (saidP_stable (saidP_stable (saidP_stable (saidP_stable (saidP_stable (saidP_stable hS.out Yp 6 kP) gp 6 (B.fold kP)) Yr 3 kR) gr 3 (B.fold kR)) Yl 4 kL) gl 4 (B.fold kL) _ _ HS91.out (HBA.out.trans (hb.mono HBA.out.size)))
   clear hb HBA HB91 HS91
   go_wp2_with fail
   refine (alike_new (SaidP (SaidP (SaidP (SaidP (SaidP (SaidP (SaidF X) Yp 6 kP) gp 6 (B.fold kP)) Yr 3 kR) gr 3 (B.fold kR)) Yl 4 kL) gl 4 (B.fold kL)) (saidP_stable (saidP_stable (saidP_stable (saidP_stable (saidP_stable (saidP_stable hS.out Yp 6 kP) gp 6 (B.fold kP)) Yr 3 kR) gr 3 (B.fold kR)) Yl 4 kL) gl 4 (B.fold kL)) kL (B.fold kL) 9 0 (by omega) (by omega) rfl rfl (HT.out.below HB92.out (Nat.le_refl _)) HS92.out HS92.out.1.2 HS92.out.2 kL_alk rfl rfl).mono ?_
   rintro e wy ⟨rfl, hb, hs⟩
   have HBY := Lib.hid (HB92.out.trans (hb.mono HB92.out.size))
   clear hb hs HB92 HS92
   go_wp2_with fail
   go_ret
   exact ⟨rfl, HBY.out⟩

end Code
end Go.Proofs.YtegjeincncccaaaGreatDoor
